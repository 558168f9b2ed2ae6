/- Texts of this session in one: what functions of the program compute, and plain facts of it, under the conditions that each theorem names. -/
import Derived.Test.YtokkabgkjhpecaaKC01
import Derived.Test.YtokkabgkjhpecaaKC03
import Derived.Test.YtokkabgkjhpecaaKC05
import Derived.Test.YtokkabgkjhpecaaKC06
import Derived.Test.YtokkabgkjhpecaaKC07
/- Printed by a program of this session out of the translation: what these functions of the program compute, under the conditions that each theorem names. -/
namespace Go.Proofs.Ytokkabgkjhpecaa.Pr
open Go.RowKit Go.Proofs.YtokkabgkjhpecaaW.PrintWords Go.Proofs.YtokkabgkjhpecaaW.PrintLast Go.Proofs.YtokkabgkjhpecaaW.PrintMore
attribute [local go_sem] max2_int min2_int max_two min_two max_three min_three max_four min_four   -- for this text's walks alone
set_option linter.unusedVariables false
set_option linter.unusedSimpArgs false

/-! ### impl_Rule_sum: function 134 -/
def impl_Rule_sum.l0 : Nat → List Int → Int → List Int → Int → Int → Int → List Int → List Int → Option (Int)
 | 0, _, _, _, _, _, _, _, _ => none
 | k + 1, x1, x5, x9, x10, x11, x213000, x213001, x213002 => if x11 < x10 then (if 0 ≤ x11 then (if x11 < (x9.length : Int) then ((impl_Rule_field.f x213000 x213001 x213002).bind fun t214 => (if x11 < (x213002.length : Int) then ((impl_Rule_field.f x213000 x213001 x213002).bind fun t216 => ((impl_field_value.f t216 x1 (rd x9 x11)).bind fun t217 => ((impl_field_mod.f t214 (wrap64 (x5 + (wrap64 ((rd x213002 x11) * t217))))).bind fun t218 => (impl_Rule_sum.l0 k x1 t218 x9 x10 (wrap64 (x11 + 1)) x213000 x213001 x213002)))) else (none))) else (none)) else (none)) else (some x5)
def impl_Rule_sum.f (k : Nat) (a0_0 : Int) (l0_1 : List Int) (l0_2 : List Int) (l1 : List Int) : Option (Int) := impl_Rule_sum.l0 k l1 0 l0_1 (l0_1.length : Int) 0 a0_0 l0_1 l0_2
theorem impl_Rule_sum.mono_l : ∀ k, (∀ y0 y1 y2 y3 y4 y5 y6 y7, LeO (impl_Rule_sum.l0 k y0 y1 y2 y3 y4 y5 y6 y7) (impl_Rule_sum.l0 (k + 1) y0 y1 y2 y3 y4 y5 y6 y7))
 | 0 => fun _ _ _ _ _ _ _ _ r h => by simp [impl_Rule_sum.l0] at h
 | k + 1 => by
  have ih0 := impl_Rule_sum.mono_l k
  ·intro y0 y1 y2 y3 y4 y5 y6 y7
   unfold impl_Rule_sum.l0
   repeat' first
   | (with_reducible exact ih0 _ _ _ _ _ _ _ _)
   | (with_reducible exact LeO.refl _)
   | (with_reducible exact LeO.none _)
   | (with_reducible refine LeO.ite ?_ ?_)
   | (with_reducible refine LeO.bind ?_ (fun _ => ?_))
   | exact ih0 _ _ _ _ _ _ _ _
   | exact LeO.none _
   | refine LeO.ite ?_ ?_
   | refine LeO.bind ?_ (fun _ => ?_)
theorem impl_Rule_sum.mono : ∀ a0 a1 a2 a3 k, LeO (impl_Rule_sum.f k a0 a1 a2 a3) (impl_Rule_sum.f (k + 1) a0 a1 a2 a3) := by
 intro a0 a1 a2 a3 k
 have ih0 := impl_Rule_sum.mono_l k
 unfold impl_Rule_sum.f
 repeat' first
   | (with_reducible exact ih0 _ _ _ _ _ _ _ _)
   | (with_reducible exact LeO.refl _)
   | (with_reducible exact LeO.none _)
   | (with_reducible refine LeO.ite ?_ ?_)
   | (with_reducible refine LeO.bind ?_ (fun _ => ?_))
   | exact ih0 _ _ _ _ _ _ _ _
   | exact LeO.none _
   | refine LeO.ite ?_ ?_
   | refine LeO.bind ?_ (fun _ => ?_)
def impl_Rule_sum.T5 : Bool × List (List Nat × List Nat) := (true, [([], []), ([0], [0]), ([], []), ([], []), ([3], [3]), ([], []), ([4, 5], [4, 5]), ([6], [6]), ([], []), ([8, 1], [8]), ([], []), ([], []), ([9, 10, 11, 9], [9, 10, 11]), ([7, 12], [7, 12]), ([2, 13], [2, 13]), ([1, 14, 12], [1, 14]), ([15, 15, 0, 1, 2, 3, 4, 5, 6, 7, 8, 9, 10, 11, 12, 13, 14, 15], [2, 15])])
def impl_Rule_sum.B5 : List Nat := [0, 1, 0, 0, 8, 0, 56, 120, 0, 259, 0, 0, 3843, 8187, 16383, 32767, 65535]
theorem impl_Rule_sum.tab5 : rtab .any (opsOf Try.f134 5) = impl_Rule_sum.T5 := by kernel_rfl
theorem impl_Rule_sum.bits5 : waitsOk impl_Rule_sum.T5.2 impl_Rule_sum.B5 = true := by kernel_rfl
set_option maxHeartbeats 8000000 in
set_option maxRecDepth 100000 in
theorem impl_Rule_sum.calls (k : Nat) (a0_0 : Int) (A0_1 : Option Addr) (c0_1 : Nat) (l0_1 : List Int) (A0_2 : Option Addr) (c0_2 : Nat) (l0_2 : List Int) (A1 : Option Addr) (c1 : Nat) (l1 : List Int) (r : Int) (w : World) (hr0_1 : Kd.C (Kd.int .i64) w A0_1 l0_1.length l0_1) (hc0_1 : l0_1.length ≤ c0_1) (hr0_2 : Kd.C (Kd.int .i64) w A0_2 l0_2.length l0_2) (hc0_2 : l0_2.length ≤ c0_2) (hr1 : Kd.C (Kd.int .i64) w A1 l1.length l1) (hc1 : l1.length ≤ c1) (h : impl_Rule_sum.f k a0_0 l0_1 l0_2 l1 = some r) :
  Calls Try.prog 134 #[.agg #[.int .i64 a0_0, .slice A0_1 l0_1.length c0_1, .slice A0_2 l0_2.length c0_2], .slice A1 l1.length c1] w fun e w' => e = .returned (.int .i64 r) ∧ Below w.heap.size w w' := by
 have hu33 := Try.underlying33
 have HR0_1 := zA hr0_1
 have HC0_1 := zA hc0_1
 clear hr0_1 hc0_1
 have HR0_2 := zA hr0_2
 have HC0_2 := zA hc0_2
 clear hr0_2 hc0_2
 have HR1 := zA hr1
 have HC1 := zA hc1
 clear hr1 hc1
 have HB := zA (Below.refl w.heap.size w)
 have H : (impl_Rule_sum.l0 k l1 0 l0_1 (l0_1.length : Int) 0 a0_0 l0_1 l0_2) = some r := h
 clear h
 have H' := zA H
 clear H
 go_enter Try.func134, Try.ntmps134
 go_wp2_with (first | ((with_reducible refine gate_dst (N := 2) rfl ?_); refine box_event ?hg (N := 2) ?hd (cs := #[.int .i64 a0_0, .slice A0_1 l0_1.length c0_1, .slice A0_2 l0_2.length c0_2]) (t := 33) ?hr ?_; (case hd => rfl); (case hg => rfl); (case hr => first | (go_simp; done) | (go_simp; rfl)); intro gb212 hg w3 hbox hb; have n0_ := xH HB hb; have n1_ := zA (hbox); have n2_ := zA ((by rw [hg]; exact (below_size (uH HB.out)) : w.heap.size ≤ gb212)); have n3_ := zA ((by rw [hg]; exact (below_size (uH HB.out)) : w.heap.size ≤ gb212)); clear HB; have HB := n0_; have BK212 := n1_; have GW212 := n2_; have GE212 := n3_; have := geI GE212; clear n0_ n1_ n2_ n3_ hb hbox hg; have hcz4_0 : w3.cell? ⟨gb212, 0, none⟩ = some (.int .i64 a0_0) := (blk_cell BK212.out 0).trans rfl; have hcz4_1 : w3.cell? ⟨gb212, 1, none⟩ = some (.slice A0_1 l0_1.length c0_1) := (blk_cell BK212.out 1).trans rfl; have hcz4_2 : w3.cell? ⟨gb212, 2, none⟩ = some (.slice A0_2 l0_2.length c0_2) := (blk_cell BK212.out 2).trans rfl; have hfz4_0 := blk_frozen BK212.out 0; have hfz4_1 := blk_frozen BK212.out 1; have hfz4_2 := blk_frozen BK212.out 2))
 go_loopg [5, 11] k (fun kq v5 v11 w' => ∃ (x5_1 : Int) (x11_1 : Int), v5 = .int .i64 x5_1 ∧ v11 = .int .i64 x11_1 ∧ Aside0 (impl_Rule_sum.l0 kq l1 x5_1 l0_1 (l0_1.length : Int) x11_1 a0_0 l0_1 l0_2 = some r) ∧ Aside0 (kq ≤ k) ∧ Aside0 (w'.heap[gb212]? = some (.cells #[.int .i64 a0_0, (.slice A0_1 l0_1.length c0_1), (.slice A0_2 l0_2.length c0_2)] 33 (0, 0))) ∧ Aside0 (Below w.heap.size w w'))
 case atStart => exact ⟨(0), (0), (by first | rfl | (simp; done) | (simp [*]; done)), (by first | rfl | (simp; done) | (simp [*]; done)), H', ⟨Nat.le_refl _⟩, ⟨uB BK212.out⟩, ⟨uH HB.out⟩⟩
 case round =>
  clear H'
  try clear c1
  try clear p2
  try clear hcz4_0
  try clear hcz4_1
  try clear hcz4_2
  try clear hfz4_0
  try clear hfz4_1
  try clear hfz4_2
  obtain ⟨x5_1, x11_1, rfl, rfl, HA, HK1, BK212, HB⟩ := hrel
  cases gk with
  | zero => exact absurd HA.out (by simp [impl_Rule_sum.l0])
  | succ k1 =>
   have H := HA.out
   clear HA
   simp only [impl_Rule_sum.l0] at H
   by_cases c5 : x11_1 < (l0_1.length : Int)
   ·rw [if_pos c5] at H
    have c5b0 : decide (x11_1 < (l0_1.length : Int)) = true := decide_eq_true c5
    clear c5
    by_cases c6 : 0 ≤ x11_1
    ·rw [if_pos c6] at H
     have c6b0 : decide (0 ≤ x11_1) = true := decide_eq_true c6
     clear c6
     by_cases c7 : x11_1 < (l0_1.length : Int)
     ·rw [if_pos c7] at H
      have c7b0 : decide (x11_1 < (l0_1.length : Int)) = true := decide_eq_true c7
      clear c7
      replace H := Option.bind_eq_some_iff.mp H
      obtain ⟨t214, A80, H⟩ := H
      replace H : (if x11_1 < (l0_2.length : Int) then ((impl_Rule_field.f a0_0 l0_1 l0_2).bind fun t216 => ((impl_field_value.f t216 l1 (rd l0_1 x11_1)).bind fun t217 => ((impl_field_mod.f t214 (wrap64 (x5_1 + (wrap64 ((rd l0_2 x11_1) * t217))))).bind fun t218 => (impl_Rule_sum.l0 k1 l1 t218 l0_1 (l0_1.length : Int) (wrap64 (x11_1 + 1)) a0_0 l0_1 l0_2)))) else (none)) = some r := H
      have A8 := zA A80
      clear A80
      by_cases c9 : x11_1 < (l0_2.length : Int)
      ·rw [if_pos c9] at H
       have c9b0 : decide (x11_1 < (l0_2.length : Int)) = true := decide_eq_true c9
       clear c9
       replace H := Option.bind_eq_some_iff.mp H
       obtain ⟨t216, A100, H⟩ := H
       replace H : ((impl_field_value.f t216 l1 (rd l0_1 x11_1)).bind fun t217 => ((impl_field_mod.f t214 (wrap64 (x5_1 + (wrap64 ((rd l0_2 x11_1) * t217))))).bind fun t218 => (impl_Rule_sum.l0 k1 l1 t218 l0_1 (l0_1.length : Int) (wrap64 (x11_1 + 1)) a0_0 l0_1 l0_2))) = some r := H
       have A10 := zA A100
       clear A100
       replace H := Option.bind_eq_some_iff.mp H
       obtain ⟨t217, A110, H⟩ := H
       replace H : ((impl_field_mod.f t214 (wrap64 (x5_1 + (wrap64 ((rd l0_2 x11_1) * t217))))).bind fun t218 => (impl_Rule_sum.l0 k1 l1 t218 l0_1 (l0_1.length : Int) (wrap64 (x11_1 + 1)) a0_0 l0_1 l0_2)) = some r := H
       have A11 := zA A110
       clear A110
       replace H := Option.bind_eq_some_iff.mp H
       obtain ⟨t218, A120, H⟩ := H
       replace H : (impl_Rule_sum.l0 k1 l1 t218 l0_1 (l0_1.length : Int) (wrap64 (x11_1 + 1)) a0_0 l0_1 l0_2) = some r := H
       have A12 := zA A120
       clear A120
       have H' := zA H
       clear H
       have p213 : 0 ≤ (x11_1 : Int) := of_decide_eq_true (by first | (with_reducible assumption) | assumption)
       have q213 : x11_1 < (l0_1.length : Int) := of_decide_eq_true (by first | (with_reducible assumption) | assumption)
       obtain ⟨ad213, e213, hx213_0⟩ := Kd.at_int HR0_1.out x11_1 p213 q213
       cases e213
       replace hx213_0 := (HB.out.cell (World.block_lt_of_cell? w _ hx213_0)).trans hx213_0
       replace p213 := eq_true p213
       replace q213 := eq_true q213
       try go_wp2
       have n0_ := zA (blk_drew BK212.out)
       have n1_ := zA (below_drew1 HB.out)
       clear BK212 HB
       have BK212 := n0_; have HB := n1_
       clear n0_ n1_
       have p215 : 0 ≤ (x11_1 : Int) := of_decide_eq_true (by first | (with_reducible assumption) | assumption)
       have q215 : x11_1 < (l0_2.length : Int) := of_decide_eq_true (by first | (with_reducible assumption) | assumption)
       obtain ⟨ad215, e215, hx215_0⟩ := Kd.at_int HR0_2.out x11_1 p215 q215
       have hw215_0 := hx215_0
       cases e215
       replace hx215_0 := (HB.out.cell (World.block_lt_of_cell? w _ hx215_0)).trans hx215_0
       replace p215 := eq_true p215
       replace q215 := eq_true q215
       refine start_ (n := 17) (S := fun w' => w'.cell? ⟨gb212, 0, none⟩ = some (.int .i64 a0_0) ∧ w'.cell? ⟨gb212, 1, none⟩ = some (.slice (some ad213) l0_1.length c0_1) ∧ w'.cell? ⟨gb212, 2, none⟩ = some (.slice (some ad215) l0_2.length c0_2) ∧ w'.cell? (ad215.add (x11_1).toNat) = some (.int .i64 (rd l0_2 x11_1))) (ds := []) #[false, false, false, false, false, false, false, false, false, false, false, false, false, false, false, false, false] (by kernel_rfl) rfl rfl ⟨(blk_cell BK212.out 0).trans rfl, (blk_cell BK212.out 1).trans rfl, (blk_cell BK212.out 2).trans rfl, ((HB.out.cell (World.block_lt_of_cell? w _ hw215_0)).trans hw215_0)⟩ (fun hHeld => ?_); refine with_tabW impl_Rule_sum.tab5 impl_Rule_sum.bits5 (fun HT_ HW_ => ?_)
       generalize wr.drew = w13 at BK212 HB hx215_0 hHeld ⊢
       refine pu_ 2 18 (bl 17 4) HT_ ?_
       refine pu_ 3 19 (bl 17 12) HT_ ?_
       refine pu_ 5 21 (bl 17 44) HT_ ?_
       refine pu_ 10 26 (bl 17 1068) HT_ ?_
       refine pu_ 11 27 (bl 17 3116) HT_ ?_
       refine ta_ 0 16 (bl 17 3117) HT_ HW_ hHeld ?_
       refine ta_ 4 20 (bl 17 3133) HT_ HW_ hHeld ?_
       refine pu_ 6 22 (bl 17 3197) HT_ ?_
       refine ta_ 7 23 (bl 17 3325) HT_ HW_ hHeld ?_
       refine ta_ 8 24 (bl 17 3581) HT_ HW_ hHeld ?_
       refine on_ 1 (some 17) (bl 17 3583) HT_ (fun K hK => ?_)
       refine goes_ Try.func155 (by kernel_rfl) rfl #[.agg #[.int .i64 a0_0, .slice (some ad213) l0_1.length c0_1, .slice (some ad215) l0_2.length c0_2]] (by rfl) rfl rfl (by (try simp only [la, lb, lc]); first | done | rfl | (simp only [ld, le]; rfl)) ?_
       with_reducible refine (impl_Rule_field.calls a0_0 _ _ l0_1 _ _ l0_2 t214 _ ?side1 ?side2 ?side3 ?side4 A8.out).mono ?_
       (case side1 => exact uC ((Kd.C_below HR0_1.out HB.out)))
       (case side2 => exact HC0_1.out)
       (case side3 => exact uC ((Kd.C_below HR0_2.out HB.out)))
       (case side4 => exact HC0_2.out)
       rintro e w14 ⟨rfl, hb⟩
       refine ⟨_, rfl, ?_⟩
       have n0_ := xB BK212 hb
       have n1_ := xH HB hb
       clear BK212 HB
       have BK212 := n0_; have HB := n1_
       clear n0_ n1_
       (try clear hb); (try clear hb2); (try clear hk); (try clear hi)
       refine hK.out _ _ ⟨(blk_cell BK212.out 0).trans rfl, (blk_cell BK212.out 1).trans rfl, (blk_cell BK212.out 2).trans rfl, ((HB.out.cell (World.block_lt_of_cell? w _ hw215_0)).trans hw215_0)⟩ (fun hHeld => ?_)
       clear hK K
       refine no_ 17 ?_
       refine on_ 9 (some 25) (bl 17 4095) HT_ (fun K hK => ?_)
       refine goes_ Try.func155 (by kernel_rfl) rfl #[.agg #[.int .i64 a0_0, .slice (some ad213) l0_1.length c0_1, .slice (some ad215) l0_2.length c0_2]] (by rfl) rfl rfl (by (try simp only [la, lb, lc]); first | done | rfl | (simp only [ld, le]; rfl)) ?_
       with_reducible refine (impl_Rule_field.calls a0_0 _ _ l0_1 _ _ l0_2 t216 _ ?side1 ?side2 ?side3 ?side4 A10.out).mono ?_
       (case side1 => exact uC ((Kd.C_below HR0_1.out HB.out)))
       (case side2 => exact HC0_1.out)
       (case side3 => exact uC ((Kd.C_below HR0_2.out HB.out)))
       (case side4 => exact HC0_2.out)
       rintro e w15 ⟨rfl, hb⟩
       refine ⟨_, rfl, ?_⟩
       have n0_ := xB BK212 hb
       have n1_ := xH HB hb
       clear BK212 HB
       have BK212 := n0_; have HB := n1_
       clear n0_ n1_
       (try clear hb); (try clear hb2); (try clear hk); (try clear hi)
       refine hK.out _ _ ⟨(blk_cell BK212.out 0).trans rfl, (blk_cell BK212.out 1).trans rfl, (blk_cell BK212.out 2).trans rfl, ((HB.out.cell (World.block_lt_of_cell? w _ hw215_0)).trans hw215_0)⟩ (fun hHeld => ?_)
       clear hK K
       refine no_ 25 ?_
       refine on_ 12 (some 28) (bl 17 8191) HT_ (fun K hK => ?_)
       refine goes_ Try.func78 (by kernel_rfl) rfl #[.int .i64 t216, .slice A1 l1.length c1, .int .i64 (rd l0_1 x11_1)] (by rfl) rfl rfl (by (try simp only [la, lb, lc]); first | done | rfl | (simp only [ld, le]; rfl)) ?_
       with_reducible refine (impl_field_value.calls t216 _ _ l1 (rd l0_1 x11_1) t217 _ ?side1 ?side2 A11.out).mono ?_
       (case side1 => exact uC ((Kd.C_below HR1.out HB.out)))
       (case side2 => exact HC1.out)
       rintro e w16 ⟨rfl, hb⟩
       refine ⟨_, rfl, ?_⟩
       have n0_ := xB BK212 hb
       have n1_ := xH HB hb
       clear BK212 HB
       have BK212 := n0_; have HB := n1_
       clear n0_ n1_
       (try clear hb); (try clear hb2); (try clear hk); (try clear hi)
       refine hK.out _ _ ⟨(blk_cell BK212.out 0).trans rfl, (blk_cell BK212.out 1).trans rfl, (blk_cell BK212.out 2).trans rfl, ((HB.out.cell (World.block_lt_of_cell? w _ hw215_0)).trans hw215_0)⟩ (fun hHeld => ?_)
       clear hK K
       refine no_ 28 ?_
       refine pu_ 13 29 (bl 17 16383) HT_ ?_
       refine pu_ 14 30 (bl 17 32767) HT_ ?_
       refine on_ 15 (some 31) (bl 17 65535) HT_ (fun K hK => ?_)
       refine goes_ Try.func88 (by kernel_rfl) rfl #[.int .i64 t214, .int .i64 (wrap64 (x5_1 + (wrap64 ((rd l0_2 x11_1) * t217))))] (by rfl) rfl rfl (by (try simp only [la, lb, lc]); first | done | rfl | (simp only [ld, le]; rfl)) ?_
       with_reducible refine (impl_field_mod.calls t214 (wrap64 (x5_1 + (wrap64 ((rd l0_2 x11_1) * t217)))) t218 _ A12.out).mono ?_
       rintro e w' ⟨rfl, ⟨nd, rfl⟩⟩
       refine ⟨_, rfl, ?_⟩
       refine hK.out _ _ ⟨(blk_cell BK212.out 0).trans rfl, (blk_cell BK212.out 1).trans rfl, (blk_cell BK212.out 2).trans rfl, ((HB.out.cell (World.block_lt_of_cell? w _ hw215_0)).trans hw215_0)⟩ (fun hHeld => ?_)
       clear hK K
       refine no_ 31 ?_
       refine pu_ 16 5 (bl 17 131071) HT_ ?_
       refine done_ (done_of HT_.out (by kernel_rfl)) ?_
       try go_wp2
       go_roundg k1
       case measure => have := HK1.out; omega
       case rel => exact ⟨(t218), (wrap64 (x11_1 + 1)), (by first | rfl | (simp; done) | (simp [*]; done)), (by first | rfl | (simp; done) | (simp [*]; done)), H', ⟨by have := HK1.out; omega⟩, ⟨uB BK212.out⟩, ⟨uH HB.out⟩⟩
      ·rw [if_neg c9] at H
       exact absurd H (by simp)
     ·rw [if_neg c7] at H
      exact absurd H (by simp)
    ·rw [if_neg c6] at H
     exact absurd H (by simp)
   ·rw [if_neg c5] at H
    have c5b0 : decide (x11_1 < (l0_1.length : Int)) = false := decide_eq_false c5
    clear c5
    obtain rfl := Option.some.inj H
    go_wp2
    go_ret
    exact ⟨by first | rfl | (simp [errW_none, errW_some] <;> rfl) | (simp [*, errW_none, errW_some] <;> rfl), uH HB.out⟩

end Go.Proofs.Ytokkabgkjhpecaa.Pr
/- Printed by a program of this session out of the translation: what these functions of the program compute, under the conditions that each theorem names. -/
namespace Go.Proofs.Ytokkabgkjhpecaa.Pr
open Go.RowKit Go.Proofs.YtokkabgkjhpecaaW.PrintWords Go.Proofs.YtokkabgkjhpecaaW.PrintLast Go.Proofs.YtokkabgkjhpecaaW.PrintMore
attribute [local go_sem] max2_int min2_int max_two min_two max_three min_three max_four min_four   -- for this text's walks alone
set_option linter.unusedVariables false
set_option linter.unusedSimpArgs false

/-! ### impl_Moments_errorFor: function 66 -/
def impl_Moments_errorFor.f (k : Nat) (a0_0 : Int) (l0_1 : List Int) (a1_0 : Int) (l1_1 : List Int) (l1_2 : List Int) (l2 : List Int) : Option (Int) := (impl_Moments_field.f a0_0 l0_1).bind fun t221 => ((impl_Moments_apply.f k a0_0 l0_1 l2).bind fun t222 => ((impl_Rule_sum.f k a1_0 l1_1 l1_2 l2).bind fun t223 => ((impl_field_mod.f t221 (wrap64 (t222 - t223))).bind fun t224 => (some t224))))
theorem impl_Moments_errorFor.mono : ∀ a0 a1 a2 a3 a4 a5 k, LeO (impl_Moments_errorFor.f k a0 a1 a2 a3 a4 a5) (impl_Moments_errorFor.f (k + 1) a0 a1 a2 a3 a4 a5) := by
 intro a0 a1 a2 a3 a4 a5 k
 unfold impl_Moments_errorFor.f
 repeat' first
   | (with_reducible exact impl_Moments_apply.mono _ _ _ _)
   | (with_reducible exact impl_Rule_sum.mono _ _ _ _ _)
   | (with_reducible exact LeO.refl _)
   | (with_reducible exact LeO.none _)
   | (with_reducible refine LeO.ite ?_ ?_)
   | (with_reducible refine LeO.bind ?_ (fun _ => ?_))
   | exact impl_Moments_apply.mono _ _ _ _
   | exact impl_Rule_sum.mono _ _ _ _ _
   | exact LeO.none _
   | refine LeO.ite ?_ ?_
   | refine LeO.bind ?_ (fun _ => ?_)
def impl_Moments_errorFor.T1 : Bool × List (List Nat × List Nat) := (true, [([], []), ([0], [0]), ([], []), ([], []), ([2, 3, 1], [2, 3]), ([], []), ([], []), ([5, 6, 4], [5, 6]), ([4, 7], [4, 7]), ([1, 8, 7], [1, 8]), ([9, 9, 0, 1, 2, 3, 4, 5, 6, 7, 8, 9], [9])])
def impl_Moments_errorFor.B1 : List Nat := [0, 1, 0, 0, 15, 0, 0, 127, 255, 511, 1023]
theorem impl_Moments_errorFor.tab1 : rtab .any (opsOf Try.f66 1) = impl_Moments_errorFor.T1 := by kernel_rfl
theorem impl_Moments_errorFor.bits1 : waitsOk impl_Moments_errorFor.T1.2 impl_Moments_errorFor.B1 = true := by kernel_rfl
set_option maxHeartbeats 8000000 in
set_option maxRecDepth 100000 in
theorem impl_Moments_errorFor.calls (k : Nat) (a0_0 : Int) (A0_1 : Option Addr) (c0_1 : Nat) (l0_1 : List Int) (a1_0 : Int) (A1_1 : Option Addr) (c1_1 : Nat) (l1_1 : List Int) (A1_2 : Option Addr) (c1_2 : Nat) (l1_2 : List Int) (A2 : Option Addr) (c2 : Nat) (l2 : List Int) (r : Int) (w : World) (hr0_1 : Kd.C (Kd.int .i64) w A0_1 l0_1.length l0_1) (hc0_1 : l0_1.length ≤ c0_1) (hr1_1 : Kd.C (Kd.int .i64) w A1_1 l1_1.length l1_1) (hc1_1 : l1_1.length ≤ c1_1) (hr1_2 : Kd.C (Kd.int .i64) w A1_2 l1_2.length l1_2) (hc1_2 : l1_2.length ≤ c1_2) (hr2 : Kd.C (Kd.int .i64) w A2 l2.length l2) (hc2 : l2.length ≤ c2) (h : impl_Moments_errorFor.f k a0_0 l0_1 a1_0 l1_1 l1_2 l2 = some r) :
  Calls Try.prog 66 #[.agg #[.int .i64 a0_0, .slice A0_1 l0_1.length c0_1], .agg #[.int .i64 a1_0, .slice A1_1 l1_1.length c1_1, .slice A1_2 l1_2.length c1_2], .slice A2 l2.length c2] w fun e w' => e = .returned (.int .i64 r) ∧ Below w.heap.size w w' := by
 have hu31 := Try.underlying31
 have hu33 := Try.underlying33
 have HR0_1 := zA hr0_1
 have HC0_1 := zA hc0_1
 clear hr0_1 hc0_1
 have HR1_1 := zA hr1_1
 have HC1_1 := zA hc1_1
 clear hr1_1 hc1_1
 have HR1_2 := zA hr1_2
 have HC1_2 := zA hc1_2
 clear hr1_2 hc1_2
 have HR2 := zA hr2
 have HC2 := zA hc2
 clear hr2 hc2
 have HB := zA (Below.refl w.heap.size w)
 have H : ((impl_Moments_field.f a0_0 l0_1).bind fun t221 => ((impl_Moments_apply.f k a0_0 l0_1 l2).bind fun t222 => ((impl_Rule_sum.f k a1_0 l1_1 l1_2 l2).bind fun t223 => ((impl_field_mod.f t221 (wrap64 (t222 - t223))).bind fun t224 => (some t224))))) = some r := h
 clear h
 replace H := Option.bind_eq_some_iff.mp H
 obtain ⟨t221, A40, H⟩ := H
 replace H : ((impl_Moments_apply.f k a0_0 l0_1 l2).bind fun t222 => ((impl_Rule_sum.f k a1_0 l1_1 l1_2 l2).bind fun t223 => ((impl_field_mod.f t221 (wrap64 (t222 - t223))).bind fun t224 => (some t224)))) = some r := H
 have A4 := zA A40
 clear A40
 replace H := Option.bind_eq_some_iff.mp H
 obtain ⟨t222, A50, H⟩ := H
 replace H : ((impl_Rule_sum.f k a1_0 l1_1 l1_2 l2).bind fun t223 => ((impl_field_mod.f t221 (wrap64 (t222 - t223))).bind fun t224 => (some t224))) = some r := H
 have A5 := zA A50
 clear A50
 replace H := Option.bind_eq_some_iff.mp H
 obtain ⟨t223, A60, H⟩ := H
 replace H : ((impl_field_mod.f t221 (wrap64 (t222 - t223))).bind fun t224 => (some t224)) = some r := H
 have A6 := zA A60
 clear A60
 replace H := Option.bind_eq_some_iff.mp H
 obtain ⟨t224, A70, H⟩ := H
 replace H : (some t224) = some r := H
 have A7 := zA A70
 clear A70
 obtain rfl := Option.some.inj H
 go_enter Try.func66, Try.ntmps66
 try go_wp2_with (first | ((with_reducible refine gate_dst (N := 3) rfl ?_); refine box_event ?hg (N := 3) ?hd (cs := #[.int .i64 a0_0, .slice A0_1 l0_1.length c0_1]) (t := 31) ?hr ?_; (case hd => rfl); (case hg => rfl); (case hr => first | (go_simp; done) | (go_simp; rfl)); intro gb219 hg w8 hbox hb; have n0_ := xH HB hb; have n1_ := zA (hbox); have n2_ := zA ((by rw [hg]; exact (below_size (uH HB.out)) : w.heap.size ≤ gb219)); have n3_ := zA ((by rw [hg]; exact (below_size (uH HB.out)) : w.heap.size ≤ gb219)); clear HB; have HB := n0_; have BK219 := n1_; have GW219 := n2_; have GE219 := n3_; have := geI GE219; clear n0_ n1_ n2_ n3_ hb hbox hg) | ((with_reducible refine gate_dst (N := 4) rfl ?_); refine box_event ?hg (N := 4) ?hd (cs := #[.int .i64 a1_0, .slice A1_1 l1_1.length c1_1, .slice A1_2 l1_2.length c1_2]) (t := 33) ?hr ?_; (case hd => rfl); (case hg => rfl); (case hr => first | (go_simp; done) | (go_simp; rfl)); intro gb220 hg w9 hbox hb; have n0_ := xB BK219 hb; have n1_ := xH HB hb; have n2_ := zA (hbox); have n3_ := zA ((by rw [hg]; exact (below_size (uH HB.out)) : w.heap.size ≤ gb220)); have n4_ := zA ((by rw [hg]; exact (below_size (uH HB.out)) : w.heap.size ≤ gb220)); have n5_ := zA ((by rw [hg]; exact neL BK219 : gb219 ≠ gb220)); have n6_ := zA ((by rw [hg]; exact neG BK219 : gb220 ≠ gb219)); clear BK219 HB; have BK219 := n0_; have HB := n1_; have BK220 := n2_; have GW220 := n3_; have GE220 := n4_; have := geI GE220; have NB219_220 := n5_; have NB220_219 := n6_; clear n0_ n1_ n2_ n3_ n4_ n5_ n6_ hb hbox hg))
 have n0_ := zA (blk_drew BK219.out)
 have n1_ := zA (blk_drew BK220.out)
 have n2_ := zA (below_drew1 HB.out)
 clear BK219 BK220 HB
 have BK219 := n0_; have BK220 := n1_; have HB := n2_
 clear n0_ n1_ n2_
 refine start_ (n := 11) (S := fun w' => w'.cell? ⟨gb219, 0, none⟩ = some (.int .i64 a0_0) ∧ w'.cell? ⟨gb219, 1, none⟩ = some (.slice A0_1 l0_1.length c0_1) ∧ w'.cell? ⟨gb220, 0, none⟩ = some (.int .i64 a1_0) ∧ w'.cell? ⟨gb220, 1, none⟩ = some (.slice A1_1 l1_1.length c1_1) ∧ w'.cell? ⟨gb220, 2, none⟩ = some (.slice A1_2 l1_2.length c1_2)) (ds := []) #[false, false, false, false, false, false, false, false, false, false, false] (by kernel_rfl) rfl rfl ⟨(blk_cell BK219.out 0).trans rfl, (blk_cell BK219.out 1).trans rfl, (blk_cell BK220.out 0).trans rfl, (blk_cell BK220.out 1).trans rfl, (blk_cell BK220.out 2).trans rfl⟩ (fun hHeld => ?_); refine with_tabW impl_Moments_errorFor.tab1 impl_Moments_errorFor.bits1 (fun HT_ HW_ => ?_)
 generalize w9.drew = w10 at BK219 BK220 HB hHeld ⊢
 refine pu_ 3 10 (bl 11 8) HT_ ?_
 refine pu_ 6 13 (bl 11 72) HT_ ?_
 refine ta_ 0 7 (bl 11 73) HT_ HW_ hHeld ?_
 refine ta_ 2 9 (bl 11 77) HT_ HW_ hHeld ?_
 refine ta_ 5 12 (bl 11 109) HT_ HW_ hHeld ?_
 refine on_ 1 (some 8) (bl 11 111) HT_ (fun K hK => ?_)
 refine goes_ Try.func100 (by kernel_rfl) rfl #[.agg #[.int .i64 a0_0, .slice A0_1 l0_1.length c0_1]] (by rfl) rfl rfl (by (try simp only [la, lb, lc]); first | done | rfl | (simp only [ld, le]; rfl)) ?_
 with_reducible refine (impl_Moments_field.calls a0_0 _ _ l0_1 t221 _ ?side1 ?side2 A4.out).mono ?_
 (case side1 => exact uC ((Kd.C_below HR0_1.out HB.out)))
 (case side2 => exact HC0_1.out)
 rintro e w11 ⟨rfl, hb⟩
 refine ⟨_, rfl, ?_⟩
 have n0_ := xB BK219 hb
 have n1_ := xB BK220 hb
 have n2_ := xH HB hb
 clear BK219 BK220 HB
 have BK219 := n0_; have BK220 := n1_; have HB := n2_
 clear n0_ n1_ n2_
 (try clear hb); (try clear hb2); (try clear hk); (try clear hi)
 refine hK.out _ _ ⟨(blk_cell BK219.out 0).trans rfl, (blk_cell BK219.out 1).trans rfl, (blk_cell BK220.out 0).trans rfl, (blk_cell BK220.out 1).trans rfl, (blk_cell BK220.out 2).trans rfl⟩ (fun hHeld => ?_)
 clear hK K
 refine no_ 8 ?_
 refine on_ 4 (some 11) (bl 11 127) HT_ (fun K hK => ?_)
 refine goes_ Try.func102 (by kernel_rfl) rfl #[.agg #[.int .i64 a0_0, .slice A0_1 l0_1.length c0_1], .slice A2 l2.length c2] (by rfl) rfl rfl (by (try simp only [la, lb, lc]); first | done | rfl | (simp only [ld, le]; rfl)) ?_
 with_reducible refine (impl_Moments_apply.calls k a0_0 _ _ l0_1 _ _ l2 t222 _ ?side1 ?side2 ?side3 ?side4 A5.out).mono ?_
 (case side1 => exact uC ((Kd.C_below HR0_1.out HB.out)))
 (case side2 => exact HC0_1.out)
 (case side3 => exact uC ((Kd.C_below HR2.out HB.out)))
 (case side4 => exact HC2.out)
 rintro e w12 ⟨rfl, hb⟩
 refine ⟨_, rfl, ?_⟩
 have n0_ := xB BK219 hb
 have n1_ := xB BK220 hb
 have n2_ := xH HB hb
 clear BK219 BK220 HB
 have BK219 := n0_; have BK220 := n1_; have HB := n2_
 clear n0_ n1_ n2_
 (try clear hb); (try clear hb2); (try clear hk); (try clear hi)
 refine hK.out _ _ ⟨(blk_cell BK219.out 0).trans rfl, (blk_cell BK219.out 1).trans rfl, (blk_cell BK220.out 0).trans rfl, (blk_cell BK220.out 1).trans rfl, (blk_cell BK220.out 2).trans rfl⟩ (fun hHeld => ?_)
 clear hK K
 refine no_ 11 ?_
 refine on_ 7 (some 14) (bl 11 255) HT_ (fun K hK => ?_)
 refine goes_ Try.func134 (by kernel_rfl) rfl #[.agg #[.int .i64 a1_0, .slice A1_1 l1_1.length c1_1, .slice A1_2 l1_2.length c1_2], .slice A2 l2.length c2] (by rfl) rfl rfl (by (try simp only [la, lb, lc]); first | done | rfl | (simp only [ld, le]; rfl)) ?_
 with_reducible refine (impl_Rule_sum.calls k a1_0 _ _ l1_1 _ _ l1_2 _ _ l2 t223 _ ?side1 ?side2 ?side3 ?side4 ?side5 ?side6 A6.out).mono ?_
 (case side1 => exact uC ((Kd.C_below HR1_1.out HB.out)))
 (case side2 => exact HC1_1.out)
 (case side3 => exact uC ((Kd.C_below HR1_2.out HB.out)))
 (case side4 => exact HC1_2.out)
 (case side5 => exact uC ((Kd.C_below HR2.out HB.out)))
 (case side6 => exact HC2.out)
 rintro e w13 ⟨rfl, hb⟩
 refine ⟨_, rfl, ?_⟩
 have n0_ := xB BK219 hb
 have n1_ := xB BK220 hb
 have n2_ := xH HB hb
 clear BK219 BK220 HB
 have BK219 := n0_; have BK220 := n1_; have HB := n2_
 clear n0_ n1_ n2_
 (try clear hb); (try clear hb2); (try clear hk); (try clear hi)
 refine hK.out _ _ ⟨(blk_cell BK219.out 0).trans rfl, (blk_cell BK219.out 1).trans rfl, (blk_cell BK220.out 0).trans rfl, (blk_cell BK220.out 1).trans rfl, (blk_cell BK220.out 2).trans rfl⟩ (fun hHeld => ?_)
 clear hK K
 refine no_ 14 ?_
 refine pu_ 8 15 (bl 11 511) HT_ ?_
 refine on_ 9 (some 16) (bl 11 1023) HT_ (fun K hK => ?_)
 refine goes_ Try.func88 (by kernel_rfl) rfl #[.int .i64 t221, .int .i64 (wrap64 (t222 - t223))] (by rfl) rfl rfl (by (try simp only [la, lb, lc]); first | done | rfl | (simp only [ld, le]; rfl)) ?_
 with_reducible refine (impl_field_mod.calls t221 (wrap64 (t222 - t223)) t224 _ A7.out).mono ?_
 rintro e w' ⟨rfl, ⟨nd, rfl⟩⟩
 refine ⟨_, rfl, ?_⟩
 refine hK.out _ _ ⟨(blk_cell BK219.out 0).trans rfl, (blk_cell BK219.out 1).trans rfl, (blk_cell BK220.out 0).trans rfl, (blk_cell BK220.out 1).trans rfl, (blk_cell BK220.out 2).trans rfl⟩ (fun hHeld => ?_)
 clear hK K
 refine no_ 16 ?_
 refine pu_ 10 6 (bl 11 2047) HT_ ?_
 refine done_ (done_of HT_.out (by kernel_rfl)) ?_
 try go_wp2
 go_ret
 exact ⟨by first | rfl | (simp [errW_none, errW_some] <;> rfl) | (simp [*, errW_none, errW_some] <;> rfl), uH HB.out⟩

end Go.Proofs.Ytokkabgkjhpecaa.Pr
/- Values of polynomials: the program's and the reference's come to one number; no condition. -/
namespace Go.Proofs.Ytokkabgkjhpecaa.Pr
open Go.RowKit Go.Proofs.YtokkabgkjhpecaaW.PrintWords Go.Proofs.YtokkabgkjhpecaaW.PrintLast Go.Proofs.YtokkabgkjhpecaaW.PrintMore

/-- The first k numbers from behind taken in. -/
def valG (p x : Int) (l : List Int) : Nat → Int
  | 0 => 0
  | k + 1 => (valG p x l k * x + l.getD (l.length - 1 - k) 0) % p
theorem valG_in {p : Int} (hp : Pm p) (x : Int) (l : List Int) (k : Nat) : 0 ≤ valG p x l k ∧ valG p x l k < p := by
  cases k with
  | zero => exact ⟨Int.le_refl _, hp.pos⟩
  | succ k => exact emodB hp.pos _
def valF (p x : Int) (l : List Int) : Int := valG p x l l.length
theorem valF_in {p : Int} (hp : Pm p) (x : Int) (l : List Int) : 0 ≤ valF p x l ∧ valF p x l < p := valG_in hp x l _
theorem valStep_eq {p x o c : Int} (hp : Pm p) (hx : 0 ≤ x ∧ x < p) (ho : 0 ≤ o ∧ o < p) (hc : 0 ≤ c ∧ c < p) : valStep p x o c = (o * x + c) % p := by
  have h := mulP hp ho.1 ho.2 hx.1 hx.2
  have ht := hp.top
  unfold valStep
  rw [wrap_id (x := o * x) (by omega) (by omega), wrap_id (x := o * x + c) (by omega) (by omega), go_mod hp]
theorem valOf_upto {p x : Int} (hp : Pm p) (hx : 0 ≤ x ∧ x < p) (l : List Int) (hl : Nm p l) (k : Nat) (hk : k ≤ l.length) : valOf p x (upto (bk l l.length) k) = valG p x l k := by
  induction k with
  | zero => rfl
  | succ k ih =>
    have hg := hl.get (i := l.length - 1 - k) (by omega)
    have hv := valG_in hp x l k
    rw [upto_succ, valOf_snoc, ih (by omega), valG]
    have e : (bk l l.length k).2 = l.getD (l.length - 1 - k) 0 := by simp [bk, List.getD_eq_getElem?_getD]
    rw [e, valStep_eq hp hx hv hg]
theorem implValue_eq {p x : Int} (hp : Pm p) (hx : 0 ≤ x ∧ x < p) (l : List Int) (hl : Nm p l) (hs : Sm l.length) : impl_field_value.f p l x = some (valF p x l) := by
  unfold impl_field_value.f
  unfold Sm at hs
  rw [if_neg hp.ne, if_pos (by omega), valOf_upto hp hx l hl l.length (Nat.le_refl _)]; rfl
theorem specAt_l0 {p x : Int} (hp : Pm p) (hx : 0 ≤ x ∧ x < p) (l : List Int) (hl : Nm p l) (hs : Sm l.length) (d : Nat) : ∀ k, k + d = l.length →
    Ev (fun n => spec_l01At.l0 n p l x (valG p x l k) ((l.length : Int) - 1 - (k : Int))) (valF p x l) := by
  induction d with
  | zero =>
    intro k hk
    refine Ev.step (fun n => by rw [spec_l01At.l0]) ?_
    refine Ev.neg (by omega) (Ev.some' ?_)
    rw [show k = l.length from by omega]; rfl
  | succ d ih =>
    intro k hk
    have hv := valG_in hp x l k
    have hg := hl.get (i := l.length - 1 - k) (by omega)
    have h := mulP hp hv.1 hv.2 hx.1 hx.2
    have ht := hp.top
    unfold Sm at hs
    have er : rd l ((l.length : Int) - 1 - (k : Int)) = l.getD (l.length - 1 - k) 0 := by
      rw [show (l.length : Int) - 1 - (k : Int) = ((l.length - 1 - k : Nat) : Int) from by omega, rd_nat]
    have ew : wrap64 ((l.length : Int) - 1 - (k : Int) - 1) = (l.length : Int) - 1 - ((k + 1 : Nat) : Int) := by rw [wrap_id (by omega) (by omega)]; omega
    refine Ev.step (fun n => by rw [spec_l01At.l0]) ?_
    rw [er, ew]
    clear er ew
    refine Ev.pos (by omega) (Ev.pos (by omega) (Ev.pos (by omega) (Ev.neg hp.ne ?_)))
    rw [wrap_id (x := valG p x l k * x) (by omega) (by omega), wrap_id (by omega) (by omega), tmod_pos (by omega)]
    exact ih (k + 1) (by omega)
theorem specAt_ev {p x : Int} (hp : Pm p) (hx : 0 ≤ x ∧ x < p) (l : List Int) (hl : Nm p l) (hs : Sm l.length) : Ev (fun n => spec_l01At.f n p l x) (valF p x l) := by
  unfold spec_l01At.f
  have h := specAt_l0 hp hx l hl hs l.length 0 (by omega)
  have hs' := hs
  unfold Sm at hs'
  rw [wrap_id (x := (l.length : Int) - 1) (by omega) (by omega)]
  rw [show (l.length : Int) - 1 - ((0 : Nat) : Int) = (l.length : Int) - 1 from by omega] at h
  exact h
end Go.Proofs.Ytokkabgkjhpecaa.Pr
/- Sums of a rule for a polynomial: the program's and the reference's come to one number; no condition. -/
namespace Go.Proofs.Ytokkabgkjhpecaa.Pr
open Go.RowKit Go.Proofs.YtokkabgkjhpecaaW.PrintWords Go.Proofs.YtokkabgkjhpecaaW.PrintLast Go.Proofs.YtokkabgkjhpecaaW.PrintMore

def sumV (p : Int) (n w f : List Int) : Nat → Nat → Int → Int
  | 0, _, s => s
  | d + 1, i, s => sumV p n w f d (i + 1) ((s + w.getD i 0 * valF p (n.getD i 0) f) % p)
theorem specSumV_l0 {p : Int} (hp : Pm p) (n w f : List Int) (hn : Nm p n) (hw : Nm p w) (hf : Nm p f) (sf : Sm f.length) (hl : n.length ≤ 24) (hwl : w.length = n.length) (d : Nat) : ∀ (i : Nat) (s : Int), i + d = n.length → 0 ≤ s ∧ s < p →
    Ev (fun q => spec_l07Sum.l0 q f s (i : Int) p n w) (sumV p n w f d i s) := by
  induction d with
  | zero =>
    intro i s hi hs
    refine Ev.step (fun q => by rw [spec_l07Sum.l0]) ?_
    exact Ev.neg (by omega) (Ev.now _)
  | succ d ih =>
    intro i s hi hs
    have h1 := hn.get (i := i) (by omega)
    have h2 := hw.get (i := i) (by omega)
    have h3 := valF_in hp (n.getD i 0) f
    have h4 := mulP hp h2.1 h2.2 h3.1 h3.2
    have ht := hp.top
    refine Ev.step (fun q => by rw [spec_l07Sum.l0]) ?_
    refine Ev.pos (by omega) (Ev.pos (by omega) (Ev.pos (by omega) ?_))
    rw [rd_nat, rd_nat]
    refine Ev.bind (specAt_ev hp h1 f hf sf) (Ev.neg hp.ne ?_)
    rw [wrap_id (x := w.getD i 0 * valF p (n.getD i 0) f) (by omega) (by omega), wrap_id (by omega) (by omega), tmod_pos (by omega), wsucc (i := i) (n := n.length) (by omega) (by omega)]
    exact ih (i + 1) _ (by omega) (emodB hp.pos _)
theorem implSumV_l0 {p : Int} (hp : Pm p) (n w f : List Int) (hn : Nm p n) (hw : Nm p w) (hf : Nm p f) (sf : Sm f.length) (hl : n.length ≤ 24) (hwl : w.length = n.length) (d : Nat) : ∀ (i : Nat) (s : Int), i + d = n.length → 0 ≤ s ∧ s < p →
    Ev (fun q => impl_Rule_sum.l0 q f s n (n.length : Int) (i : Int) p n w) (sumV p n w f d i s) := by
  induction d with
  | zero =>
    intro i s hi hs
    refine Ev.step (fun q => by rw [impl_Rule_sum.l0]) ?_
    exact Ev.neg (by omega) (Ev.now _)
  | succ d ih =>
    intro i s hi hs
    have h1 := hn.get (i := i) (by omega)
    have h2 := hw.get (i := i) (by omega)
    have h3 := valF_in hp (n.getD i 0) f
    have h4 := mulP hp h2.1 h2.2 h3.1 h3.2
    have ht := hp.top
    refine Ev.step (fun q => by rw [impl_Rule_sum.l0]) ?_
    rw [rd_nat, rd_nat]
    refine Ev.pos (by omega) (Ev.pos (by omega) (Ev.pos (by omega) (Ev.bindE (a := p) rfl (Ev.pos (by omega) (Ev.bindE (a := p) rfl (Ev.bindE (implValue_eq hp h1 f hf sf) ?_))))))
    rw [wrap_id (x := w.getD i 0 * valF p (n.getD i 0) f) (by omega) (by omega), wrap_id (x := s + w.getD i 0 * valF p (n.getD i 0) f) (by omega) (by omega)]
    refine Ev.bindE (mod_eq hp _) ?_
    rw [wsucc (i := i) (n := n.length) (by omega) (by omega)]
    exact ih (i + 1) _ (by omega) (emodB hp.pos _)
end Go.Proofs.Ytokkabgkjhpecaa.Pr
