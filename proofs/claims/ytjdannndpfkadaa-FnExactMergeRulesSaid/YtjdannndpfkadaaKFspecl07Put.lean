/- Printed by a program of this session out of the translation: what these functions of the program compute, under the conditions that each theorem names. -/
import Derived.Test.YtjdannndpfkadaaKMergeRules1
import Derived.Test.YtjdannndpfkadaaKMergeRules2
namespace Go.Proofs.Ytjdannndpfkadaa.Pr
open Go.RowKit Go.Proofs.YtjdannndpfkadaaW.PrintWords Go.Proofs.YtjdannndpfkadaaW.PrintLast Go.Proofs.YtjdannndpfkadaaW.PrintMore
attribute [local go_sem] max2_int min2_int max_two min_two max_three min_three max_four min_four   -- for this text's walks alone
set_option linter.unusedVariables false
set_option linter.unusedSimpArgs false

/-! ### spec_l07Put: function 54 -/
mutual
def spec_l07Put.j1 : Nat → Int → Int → Int → Int → List Int → List Int → Option (Int × List Int × List Int)
 | 0, _, _, _, _, _, _ => none
 | k + 1, x1, x2, x7, x150000, x150001, x150002 => if x7 < (x150001.length : Int) then (if 0 ≤ x7 then (spec_l07Put.j2 k x1 x2 x7 ((rd x150001 x7) == x1) x150000 x150001 x150002) else (none)) else (spec_l07Put.j2 k x1 x2 x7 false x150000 x150001 x150002)
def spec_l07Put.j2 : Nat → Int → Int → Int → Bool → Int → List Int → List Int → Option (Int × List Int × List Int)
 | 0, _, _, _, _, _, _, _ => none
 | k + 1, x1, x2, x7, x39, x150000, x150001, x150002 => if x39 = true then ((spec_l01Own.f x150002).bind fun t153 => (if 0 ≤ x7 then (if x7 < (t153.length : Int) then (if x150000 = 0 then (none) else (some (x150000, x150001, (t153.set (x7 : Int).toNat (Int.tmod (wrap64 ((rd t153 x7) + x2)) x150000))))) else (none)) else (none))) else (if 0 ≤ x7 ∧ x7 ≤ (x150001.length : Int) ∧ x7 ≤ (x150002.length : Int) then ((spec_l01Own.f (x150001.take (x7 : Int).toNat)).bind fun t158 => ((some (([x1] : List Int) : List Int)).bind fun y161 => (if t158.length + y161.length < 17592186044416 then ((some (t158 ++ y161 : List Int)).bind fun y164 => ((spec_l01Own.f (x150002.take (x7 : Int).toNat)).bind fun t167 => ((some (([x2] : List Int) : List Int)).bind fun y170 => (if t167.length + y170.length < 17592186044416 then ((some (t167 ++ y170 : List Int)).bind fun y173 => (if y164.length + (x150001.drop (x7 : Int).toNat).length < 17592186044416 then (if y173.length + (x150002.drop (x7 : Int).toNat).length < 17592186044416 then (some (x150000, (y164 ++ (x150001.drop (x7 : Int).toNat)), (y173 ++ (x150002.drop (x7 : Int).toNat)))) else (none)) else (none))) else (none))))) else (none)))) else (none))
def spec_l07Put.l0 : Nat → Int → Int → Int → Int → List Int → List Int → Option (Int × List Int × List Int)
 | 0, _, _, _, _, _, _ => none
 | k + 1, x1, x2, x7, x150000, x150001, x150002 => if x7 < (x150001.length : Int) then (if 0 ≤ x7 then (if (rd x150001 x7) < x1 then (spec_l07Put.l0 k x1 x2 (wrap64 (x7 + 1)) x150000 x150001 x150002) else (spec_l07Put.j1 k x1 x2 x7 x150000 x150001 x150002)) else (none)) else (spec_l07Put.j1 k x1 x2 x7 x150000 x150001 x150002)
end
def spec_l07Put.f (k : Nat) (a0_0 : Int) (l0_1 : List Int) (l0_2 : List Int) (a1 : Int) (a2 : Int) : Option (Int × List Int × List Int) := spec_l07Put.l0 k a1 a2 0 a0_0 l0_1 l0_2
def spec_l07Put.T6 : Bool × List (List Nat × List Nat) := (true, [([], []), ([0], [0]), ([], []), ([], []), ([3], [3]), ([], []), ([4, 5], [4, 5]), ([6], [6]), ([], []), ([7, 8], [7, 8]), ([], []), ([10], [10]), ([9, 11], [9, 11]), ([1, 2, 0, 1, 2, 3, 4, 5, 6, 7, 8, 9, 10, 11, 12], [1, 2]), ([13, 12, 0, 1, 2, 3, 4, 5, 6, 7, 8, 9, 10, 11, 12], [12, 13])])
def spec_l07Put.B6 : List Nat := [0, 1, 0, 0, 8, 0, 56, 120, 0, 504, 0, 1024, 4088, 8191, 16383]
theorem spec_l07Put.tab6 : rtab .any (opsOf Try.f54 6) = spec_l07Put.T6 := by kernel_rfl
theorem spec_l07Put.bits6 : waitsOk spec_l07Put.T6.2 spec_l07Put.B6 = true := by kernel_rfl
def spec_l07Put.T8 : Bool × List (List Nat × List Nat) := (true, [([], []), ([0], [0]), ([], []), ([1, 2], [1, 2]), ([3], [3]), ([], []), ([5], [5]), ([4, 6, 4], [4, 6]), ([], []), ([8], [8]), ([], []), ([9, 10], [9, 10]), ([11, 7], [11]), ([], []), ([13], [13]), ([12, 14, 12], [12, 14]), ([7, 15, 0, 1, 2, 3, 4, 5, 6, 7], [7]), ([15, 16, 0, 1, 2, 3, 4, 5, 6, 7, 8, 9, 10, 11, 12, 13, 14, 15, 16], [15])])
def spec_l07Put.B8 : List Nat := [0, 1, 0, 7, 15, 0, 32, 127, 0, 256, 0, 1792, 4095, 0, 8192, 32767, 65535, 131071]
theorem spec_l07Put.tab8 : rtab .any (opsOf Try.f54 8) = spec_l07Put.T8 := by kernel_rfl
theorem spec_l07Put.bits8 : waitsOk spec_l07Put.T8.2 spec_l07Put.B8 = true := by kernel_rfl
set_option maxHeartbeats 8000000 in
set_option maxRecDepth 100000 in
theorem spec_l07Put.calls (k : Nat) (a0_0 : Int) (P0_1_ : Nat → Prop) (u9000_ : Value) (l0_1 : List Int) (A0_2 : Option Addr) (c0_2 : Nat) (l0_2 : List Int) (a1 : Int) (a2 : Int) (r1 : Int) (r2 : List Int) (r3 : List Int) (w0 w : World) (hB : Below w0.heap.size w0 w) (ho0_1 : Kd.R (Kd.int .i64) 2 w w0.heap.size P0_1_ u9000_ l0_1) (hr0_2 : ∀ W_, Kept w W_ (fun k_ => P0_1_ k_) → Kd.C (Kd.int .i64) W_ A0_2 l0_2.length l0_2) (hc0_2 : l0_2.length ≤ c0_2) (h : spec_l07Put.f k a0_0 l0_1 l0_2 a1 a2 = some (r1, r2, r3)) :
  Calls Try.prog 54 #[.agg #[.int .i64 a0_0, u9000_, .slice A0_2 l0_2.length c0_2], .int .i64 a1, .int .i64 a2] w fun e w' => ∃ v1_ v2_ : Value, e = .returned (.agg #[.int .i64 r1, v1_, v2_]) ∧ Kd.R (Kd.int .i64) 2 w' w0.heap.size (fun k_ => (P0_1_ k_ ∨ w.heap.size ≤ k_) ∧ some k_ ≠ (v2_ : Value).ownBlock) v1_ r2 ∧ Kd.R (Kd.int .i64) 2 w' w0.heap.size (fun k_ => (P0_1_ k_ ∨ w.heap.size ≤ k_) ∧ some k_ ≠ (v1_ : Value).ownBlock) v2_ r3 ∧ Below w0.heap.size w0 w' ∧ Kept w w' (fun k_ => P0_1_ k_) := by
 have hu51 := Try.underlying51
 have HO0_1 := zA (show Kd.R (Kd.int .i64) 2 w w0.heap.size (fun k_ => (P0_1_ k_ ∨ w.heap.size ≤ k_)) u9000_ l0_1 from Kd.R_mono ho0_1 (fun k_ hk => (.inl hk)))
 have HR0_2 := zA hr0_2
 have HC0_2 := zA hc0_2
 clear hr0_2 hc0_2
 have HK := zA (Kept.refl w (fun k_ => P0_1_ k_))
 have HW0 := zA hB.size
 have HB := zA hB
 clear hB
 have H : (spec_l07Put.l0 k a1 a2 0 a0_0 l0_1 l0_2) = some (r1, r2, r3) := h
 clear h
 have HC4 := zA H
 clear H
 obtain ⟨Ao5, co5, eo5⟩ := Kd.R_slice HO0_1.out
 subst eo5
 go_enter Try.func54, Try.ntmps54
 go_upto_block 0 with (first | ((with_reducible refine gate_dst (N := 3) rfl ?_); refine bx 3 #[.int .i64 a0_0, .slice Ao5 l0_1.length co5, .slice A0_2 l0_2.length c0_2] 51 ?_; intro gb149 hg w6 hbox hb; replace HO0_1 := xR HO0_1 hb; have BK149 := zA (hbox); have GW149 := zA ((by rw [hg]; exact (by first | exact HK.out.1 | exact (show Kept w _ (fun k_ => P0_1_ k_) from by repeat (first | (with_reducible first | exact HK.out | apply Kept.alloc | apply Kept.drewN | apply Kept.drew) | exact HK.out)).1) : w.heap.size ≤ gb149)); replace HK := zA (Kept.below (S := (fun k_ => P0_1_ k_)) (by repeat (first | (with_reducible first | exact HK.out | apply Kept.alloc | apply Kept.drewN | apply Kept.drew) | exact HK.out)) hb); have GE149 := zA ((by rw [hg]; exact (below_size (uH HB.out)) : w0.heap.size ≤ gb149)); replace HB := xH HB hb; have := geI GE149; clear hb hbox hg) | ((with_reducible refine gate_dst (N := 6) rfl ?_); refine bx 6 #[.int .i64 0, .slice none 0 0, .slice none 0 0] 51 ?_; intro gb150 hg w7 hbox hb; replace HO0_1 := xR HO0_1 hb; have BK150 := zA (hbox); have GW150 := zA ((by rw [hg]; exact (by first | exact HK.out.1 | exact (show Kept w _ (fun k_ => P0_1_ k_) from by repeat (first | (with_reducible first | exact HK.out | apply Kept.alloc | apply Kept.drewN | apply Kept.drew | refine Kept.setCell ?_ (.inr GW149.out) _) | exact HK.out)).1) : w.heap.size ≤ gb150)); replace HK := zA (Kept.below (S := (fun k_ => P0_1_ k_)) (by repeat (first | (with_reducible first | exact HK.out | apply Kept.alloc | apply Kept.drewN | apply Kept.drew | refine Kept.setCell ?_ (.inr GW149.out) _) | exact HK.out)) hb); have GE150 := zA ((by rw [hg]; exact (below_size (uH HB.out)) : w0.heap.size ≤ gb150)); replace HB := xH HB hb; have NB149_150 := zA ((by rw [hg]; exact neL BK149 : gb149 ≠ gb150)); have NB150_149 := zA ((by rw [hg]; exact neG BK149 : gb150 ≠ gb149)); replace BK149 := xB BK149 hb; have := geI GE150; clear hb hbox hg))
 (try simp only [Act.put, ls, lz, ln])
 go_cut [7] (fun v7 wc => ∃ (kq : Nat) (x7_3 : Int), v7 = .int .i64 x7_3 ∧ Aside0 (spec_l07Put.j1 kq a1 a2 x7_3 a0_0 l0_1 l0_2 = some (r1, r2, r3)) ∧ Aside0 (kq ≤ k) ∧ Aside0 (Kd.R (Kd.int .i64) 2 wc w0.heap.size (fun k_ => (P0_1_ k_ ∨ w.heap.size ≤ k_)) (.slice Ao5 l0_1.length co5) l0_1) ∧ Aside0 (wc.heap[gb149]? = some (.cells #[.int .i64 a0_0, (.slice Ao5 l0_1.length co5), (.slice A0_2 l0_2.length c0_2)] 51 (0, 0))) ∧ Aside0 (wc.heap[gb150]? = some (.cells #[.int .i64 0, (.slice none 0 0), (.slice none 0 0)] 51 (0, 0))) ∧ Aside0 (Kept w wc (fun k_ => P0_1_ k_)) ∧ Aside0 (Below w0.heap.size w0 wc))
 case first =>
  have H := HC4.out
  clear HC4
  have H' := zA H
  clear H
  go_wp2
  go_loopg [7] k (fun kq v7 w' => ∃ (x7_1 : Int), v7 = .int .i64 x7_1 ∧ Aside0 (spec_l07Put.l0 kq a1 a2 x7_1 a0_0 l0_1 l0_2 = some (r1, r2, r3)) ∧ Aside0 (kq ≤ k) ∧ Aside0 (Kd.R (Kd.int .i64) 2 w' w0.heap.size (fun k_ => (P0_1_ k_ ∨ w.heap.size ≤ k_)) (.slice Ao5 l0_1.length co5) l0_1) ∧ Aside0 (w'.heap[gb149]? = some (.cells #[.int .i64 a0_0, (.slice Ao5 l0_1.length co5), (.slice A0_2 l0_2.length c0_2)] 51 (0, 0))) ∧ Aside0 (w'.heap[gb150]? = some (.cells #[.int .i64 0, (.slice none 0 0), (.slice none 0 0)] 51 (0, 0))) ∧ Aside0 (Kept w w' (fun k_ => P0_1_ k_)) ∧ Aside0 (Below w0.heap.size w0 w'))
  case atStart => exact ⟨(0), (by first | rfl | (simp; done) | (simp [*]; done)), H', ⟨Nat.le_refl _⟩, ⟨uR HO0_1.out⟩, ⟨uB BK149.out⟩, ⟨uB BK150.out⟩, ⟨by repeat (first | (with_reducible first | exact HK.out | apply Kept.alloc | apply Kept.drewN | apply Kept.drew | refine Kept.setCell ?_ (.inr GW149.out) _ | refine Kept.setCell ?_ (.inr GW150.out) _) | exact HK.out)⟩, ⟨uH HB.out⟩⟩
  case round =>
   clear H'
   (try clear p2);(try clear c5)
   obtain ⟨x7_1, rfl, HA, HK1, HO_150001, BK149, BK150, HK, HB⟩ := hrel
   cases gk with
   | zero => exact absurd HA.out (by simp [spec_l07Put.l0])
   | succ k1 =>
    have H := HA.out
    clear HA
    simp only [spec_l07Put.l0] at H
    by_cases c8 : x7_1 < (l0_1.length : Int)
    rotate_left
    ·rw [if_neg c8] at H
     have c8b0 : decide (x7_1 < (l0_1.length : Int)) = false := decide_eq_false c8
     clear c8
     (first | rw [c8b0] | (simp only [i64_w, i32_w]; rw [c8b0]) | skip)
     have H' := zA H
     clear H
     have hnb15 := NB149_150.out; have hnc15 := NB150_149.out
     have hcz16_0 := bc BK149 0
     have hcz16_1 := bc BK149 1
     have hcz16_2 := bc BK149 2
     have hfz16_0 := bf BK149 0
     have hfz16_1 := bf BK149 1
     have hfz16_2 := bf BK149 2
     go_wp2
     go_meet
     case rel => exact ⟨_, (x7_1), (by first | rfl | (simp; done) | (simp [*]; done)), H', ⟨by have := HK1.out; first | omega | exact Nat.le_refl _⟩, ⟨uR HO_150001.out⟩, ⟨uB BK149.out⟩, ⟨uB BK150.out⟩, ⟨by repeat (first | (with_reducible first | exact HK.out | apply Kept.alloc | apply Kept.drewN | apply Kept.drew | refine Kept.setCell ?_ (.inr GW149.out) _ | refine Kept.setCell ?_ (.inr GW150.out) _) | exact HK.out)⟩, ⟨uH HB.out⟩⟩
    rw [if_pos c8] at H
    have c8b0 : decide (x7_1 < (l0_1.length : Int)) = true := decide_eq_true c8
    clear c8
    (first | rw [c8b0] | (simp only [i64_w, i32_w]; rw [c8b0]) | skip)
    by_cases c9 : 0 ≤ x7_1
    rotate_left
    ·rw [if_neg c9] at H
     exact absurd H (by simp)
    rw [if_pos c9] at H
    have c9b0 : decide (0 ≤ x7_1) = true := decide_eq_true c9
    clear c9
    by_cases c10 : (rd l0_1 x7_1) < a1
    rotate_left
    ·rw [if_neg c10] at H
     have c10b0 : decide ((rd l0_1 x7_1) < a1) = false := decide_eq_false c10
     clear c10
     have H' := zA H
     clear H
     have hnb13 := NB149_150.out; have hnc13 := NB150_149.out
     have hcz14_0 := bc BK149 0
     have hcz14_1 := bc BK149 1
     have hcz14_2 := bc BK149 2
     have hfz14_0 := bf BK149 0
     have hfz14_1 := bf BK149 1
     have hfz14_2 := bf BK149 2
     have p151 : 0 ≤ (x7_1 : Int) := of_decide_eq_true (by first | (with_reducible assumption) | assumption)
     have q151 : x7_1 < (l0_1.length : Int) := of_decide_eq_true (by first | (with_reducible assumption) | assumption)
     obtain ⟨ad151, e151, hx151_0⟩ := Kd.at_int (Kd.R_reads' HO_150001.out).2.2 x7_1 p151 q151
     cases e151
     replace p151 := eq_true p151
     replace q151 := eq_true q151
     go_wp2
     go_meet
     case rel => exact ⟨_, (x7_1), (by first | rfl | (simp; done) | (simp [*]; done)), H', ⟨by have := HK1.out; first | omega | exact Nat.le_refl _⟩, ⟨uR HO_150001.out⟩, ⟨uB BK149.out⟩, ⟨uB BK150.out⟩, ⟨by repeat (first | (with_reducible first | exact HK.out | apply Kept.alloc | apply Kept.drewN | apply Kept.drew | refine Kept.setCell ?_ (.inr GW149.out) _ | refine Kept.setCell ?_ (.inr GW150.out) _) | exact HK.out)⟩, ⟨uH HB.out⟩⟩
    rw [if_pos c10] at H
    have c10b0 : decide ((rd l0_1 x7_1) < a1) = true := decide_eq_true c10
    clear c10
    have H' := zA H
    clear H
    have hnb11 := NB149_150.out; have hnc11 := NB150_149.out
    have hcz12_0 := bc BK149 0
    have hcz12_1 := bc BK149 1
    have hcz12_2 := bc BK149 2
    have hfz12_0 := bf BK149 0
    have hfz12_1 := bf BK149 1
    have hfz12_2 := bf BK149 2
    have p151 : 0 ≤ (x7_1 : Int) := of_decide_eq_true (by first | (with_reducible assumption) | assumption)
    have q151 : x7_1 < (l0_1.length : Int) := of_decide_eq_true (by first | (with_reducible assumption) | assumption)
    obtain ⟨ad151, e151, hx151_0⟩ := Kd.at_int (Kd.R_reads' HO_150001.out).2.2 x7_1 p151 q151
    cases e151
    replace p151 := eq_true p151
    replace q151 := eq_true q151
    go_wp2
    go_roundg k1
    case measure => have := HK1.out; omega
    case rel => exact ⟨(wrap64 (x7_1 + 1)), (by first | rfl | (simp; done) | (simp [*]; done)), H', ⟨by have := HK1.out; omega⟩, ⟨uR HO_150001.out⟩, ⟨uB BK149.out⟩, ⟨uB BK150.out⟩, ⟨by repeat (first | (with_reducible first | exact HK.out | apply Kept.alloc | apply Kept.drewN | apply Kept.drew | refine Kept.setCell ?_ (.inr GW149.out) _ | refine Kept.setCell ?_ (.inr GW150.out) _) | exact HK.out)⟩, ⟨uH HB.out⟩⟩
 case rest =>
  clear HC4
  (try clear c1);(try clear p1);(try clear q1);(try clear hx1);(try clear p2);(try clear c5);(try clear p6);(try clear c8);(try clear c8b0);(try clear c9);(try clear c9b0);(try clear c10);(try clear c10b0);(try clear c11);(try clear c13);(try clear c15);(try clear p15);(try clear q15);(try clear hx15);(try clear hcz12_0);(try clear hcz12_1);(try clear hcz12_2);(try clear hcz14_0);(try clear hcz14_1)
  (try clear hcz14_2);(try clear hcz16_0);(try clear hcz16_1);(try clear hcz16_2);(try clear hfz12_0);(try clear hfz12_1);(try clear hfz12_2);(try clear hfz14_0);(try clear hfz14_1);(try clear hfz14_2);(try clear hfz16_0);(try clear hfz16_1);(try clear hfz16_2);(try clear hx151_0);(try clear p151);(try clear p2);(try clear q151)
  obtain ⟨kq, x7_3, rfl, HA, HJ3, HO_150001, BK149, BK150, HK, HB⟩ := hcut
  cases kq with
  | zero => exact absurd HA.out (by simp [spec_l07Put.j1])
  | succ kj3 =>
   have H := HA.out
   clear HA
   simp only [spec_l07Put.j1] at H
   have HC17 := zA H
   clear H
   go_upto_region 4 with (fail)
   go_cut [39] (fun v39 wc => ∃ (kq : Nat) (x39_16 : Bool), v39 = .bool x39_16 ∧ Aside0 (spec_l07Put.j2 kq a1 a2 x7_3 x39_16 a0_0 l0_1 l0_2 = some (r1, r2, r3)) ∧ Aside0 (kq ≤ kj3) ∧ Aside0 (Kd.R (Kd.int .i64) 2 wc w0.heap.size (fun k_ => (P0_1_ k_ ∨ w.heap.size ≤ k_)) (.slice Ao5 l0_1.length co5) l0_1) ∧ Aside0 (wc.heap[gb149]? = some (.cells #[.int .i64 a0_0, (.slice Ao5 l0_1.length co5), (.slice A0_2 l0_2.length c0_2)] 51 (0, 0))) ∧ Aside0 (wc.heap[gb150]? = some (.cells #[.int .i64 0, (.slice none 0 0), (.slice none 0 0)] 51 (0, 0))) ∧ Aside0 (Kept w wc (fun k_ => P0_1_ k_)) ∧ Aside0 (Below w0.heap.size w0 wc))
   case first =>
    have H := HC17.out
    clear HC17
    by_cases c18 : x7_3 < (l0_1.length : Int)
    rotate_left
    ·rw [if_neg c18] at H
     have c18b0 : decide (x7_3 < (l0_1.length : Int)) = false := decide_eq_false c18
     clear c18
     (first | rw [c18b0] | (simp only [i64_w, i32_w]; rw [c18b0]) | skip)
     have H' := zA H
     clear H
     have hnb22 := NB149_150.out; have hnc22 := NB150_149.out
     have hcz23_0 := bc BK149 0
     have hcz23_1 := bc BK149 1
     have hcz23_2 := bc BK149 2
     have hfz23_0 := bf BK149 0
     have hfz23_1 := bf BK149 1
     have hfz23_2 := bf BK149 2
     go_wp2
     go_meet
     case rel => exact ⟨_, (false), (by first | rfl | (simp; done) | (simp [*]; done)), H', ⟨by have := HJ3.out; first | omega | exact Nat.le_refl _⟩, ⟨uR HO_150001.out⟩, ⟨uB BK149.out⟩, ⟨uB BK150.out⟩, ⟨by repeat (first | (with_reducible first | exact HK.out | apply Kept.alloc | apply Kept.drewN | apply Kept.drew | refine Kept.setCell ?_ (.inr GW149.out) _ | refine Kept.setCell ?_ (.inr GW150.out) _) | exact HK.out)⟩, ⟨uH HB.out⟩⟩
    rw [if_pos c18] at H
    have c18b0 : decide (x7_3 < (l0_1.length : Int)) = true := decide_eq_true c18
    clear c18
    (first | rw [c18b0] | (simp only [i64_w, i32_w]; rw [c18b0]) | skip)
    by_cases c19 : 0 ≤ x7_3
    rotate_left
    ·rw [if_neg c19] at H
     exact absurd H (by simp)
    rw [if_pos c19] at H
    have c19b0 : decide (0 ≤ x7_3) = true := decide_eq_true c19
    clear c19
    have H' := zA H
    clear H
    have hnb20 := NB149_150.out; have hnc20 := NB150_149.out
    have hcz21_0 := bc BK149 0
    have hcz21_1 := bc BK149 1
    have hcz21_2 := bc BK149 2
    have hfz21_0 := bf BK149 0
    have hfz21_1 := bf BK149 1
    have hfz21_2 := bf BK149 2
    have p152 : 0 ≤ (x7_3 : Int) := of_decide_eq_true (by first | (with_reducible assumption) | assumption)
    have q152 : x7_3 < (l0_1.length : Int) := of_decide_eq_true (by first | (with_reducible assumption) | assumption)
    obtain ⟨ad152, e152, hx152_0⟩ := Kd.at_int (Kd.R_reads' HO_150001.out).2.2 x7_3 p152 q152
    cases e152
    replace p152 := eq_true p152
    replace q152 := eq_true q152
    go_wp2
    go_meet
    case rel => exact ⟨_, (((rd l0_1 x7_3) == a1)), (by first | rfl | (simp; done) | (simp [*]; done)), H', ⟨by have := HJ3.out; first | omega | exact Nat.le_refl _⟩, ⟨uR HO_150001.out⟩, ⟨uB BK149.out⟩, ⟨uB BK150.out⟩, ⟨by repeat (first | (with_reducible first | exact HK.out | apply Kept.alloc | apply Kept.drewN | apply Kept.drew | refine Kept.setCell ?_ (.inr GW149.out) _ | refine Kept.setCell ?_ (.inr GW150.out) _) | exact HK.out)⟩, ⟨uH HB.out⟩⟩
   case rest =>
    clear HC17
    (try clear c1);(try clear p1);(try clear q1);(try clear hx1);(try clear c2);(try clear p2);(try clear c5);(try clear p6);(try clear c8);(try clear c8b0);(try clear c9);(try clear c9b0);(try clear c10);(try clear c10b0);(try clear c11);(try clear c13);(try clear c15);(try clear p15);(try clear q15);(try clear hx15);(try clear c18);(try clear c18b0);(try clear c19);(try clear c19b0);(try clear c20)
    (try clear c22);(try clear hcz12_0);(try clear hcz12_1);(try clear hcz12_2);(try clear hcz14_0);(try clear hcz14_1);(try clear hcz14_2);(try clear hcz16_0);(try clear hcz16_1);(try clear hcz16_2);(try clear hcz21_0);(try clear hcz21_1);(try clear hcz21_2);(try clear hcz23_0);(try clear hcz23_1);(try clear hcz23_2);(try clear hfz12_0);(try clear hfz12_1);(try clear hfz12_2);(try clear hfz14_0);(try clear hfz14_1)
    (try clear hfz14_2);(try clear hfz16_0);(try clear hfz16_1);(try clear hfz16_2);(try clear hfz21_0);(try clear hfz21_1);(try clear hfz21_2);(try clear hfz23_0);(try clear hfz23_1);(try clear hfz23_2);(try clear hx151_0);(try clear hx152_0);(try clear p1);(try clear p15);(try clear p151);(try clear p152);(try clear p2);(try clear p6);(try clear q1);(try clear q15);(try clear q151);(try clear q152)
    obtain ⟨kq, x39_16, rfl, HA, HJ16, HO_150001, BK149, BK150, HK, HB⟩ := hcut
    cases kq with
    | zero => exact absurd HA.out (by simp [spec_l07Put.j2])
    | succ kj16 =>
     have H := HA.out
     clear HA
     simp only [spec_l07Put.j2] at H
     by_cases c24 : x39_16 = true
     ·subst c24
      have H1 : ((spec_l01Own.f l0_2).bind fun t153 => (if 0 ≤ x7_3 then (if x7_3 < (t153.length : Int) then (if a0_0 = 0 then (none) else (some (a0_0, l0_1, (t153.set (x7_3 : Int).toNat (Int.tmod (wrap64 ((rd t153 x7_3) + a2)) a0_0))))) else (none)) else (none))) = some (r1, r2, r3) := by rw [if_pos rfl] at H; exact H
      clear H
      have H := H1
      clear H1
      replace H := Option.bind_eq_some_iff.mp H
      obtain ⟨t153, A250, H⟩ := H
      replace H : (if 0 ≤ x7_3 then (if x7_3 < (t153.length : Int) then (if a0_0 = 0 then (none) else (some (a0_0, l0_1, (t153.set (x7_3 : Int).toNat (Int.tmod (wrap64 ((rd t153 x7_3) + a2)) a0_0))))) else (none)) else (none)) = some (r1, r2, r3) := H
      have A25 := zA A250
      clear A250
      by_cases c26 : 0 ≤ x7_3
      rotate_left
      ·rw [if_neg c26] at H
       exact absurd H (by simp)
      rw [if_pos c26] at H
      have c26b0 : decide (0 ≤ x7_3) = true := decide_eq_true c26
      clear c26
      by_cases c27 : x7_3 < (t153.length : Int)
      rotate_left
      ·rw [if_neg c27] at H
       exact absurd H (by simp)
      rw [if_pos c27] at H
      have c27b0 : decide (x7_3 < (t153.length : Int)) = true := decide_eq_true c27
      clear c27
      by_cases c28 : a0_0 = 0
      rotate_left
      ·rw [if_neg c28] at H
       have c28b0 : (a0_0 == 0) = false := beq_eq_false_iff_ne.mpr c28
       have c28b1 : (a0_0 != 0) = true := bne_iff_ne.mpr c28
       obtain ⟨y157, hy157⟩ : ∃ y_ : List Int, y_ = (t153.set (x7_3 : Int).toNat (Int.tmod (wrap64 ((rd t153 x7_3) + a2)) a0_0)) := ⟨_, rfl⟩
       replace H : (some (a0_0, l0_1, y157)) = some (r1, r2, r3) := by first | (rw [hy157]; exact H) | exact H
       have Ny157 := zA hy157
       clear hy157
       simp only [Option.some.injEq, Prod.mk.injEq] at H
       obtain ⟨rfl, rfl, rfl⟩ := H
       have hnb30 := NB149_150.out; have hnc30 := NB150_149.out
       have hcz31_0 := bc BK149 0
       have hcz31_1 := bc BK149 1
       have hcz31_2 := bc BK149 2
       have hfz31_0 := bf BK149 0
       have hfz31_1 := bf BK149 1
       have hfz31_2 := bf BK149 2
       try go_wp2_with (first | ((with_reducible refine gate_callee (f := 41) rfl ?_); refine gL (some 42) Try.func41 #[.slice A0_2 l0_2.length c0_2] ?_; (with_reducible refine (spec_l01Own.calls _ _ l0_2 t153 _ ?side1 ?side2 A25.out).mono ?_); (case side1 => exact Kd.C_kept_now HR0_2.out (by repeat (first | (with_reducible first | exact HK.out | apply Kept.alloc | apply Kept.drewN | apply Kept.drew | refine Kept.setCell ?_ (.inr GW149.out) _ | refine Kept.setCell ?_ (.inr GW150.out) _) | exact HK.out))); (case side2 => exact HC0_2.out); rintro e w32 ⟨v154, rfl, ho0, hb⟩; refine ⟨_, rfl, ?_⟩; have HO155 := zA (Kd.R_lower (Kd.R_new' (Kd.R_newM (M := fun k_ => (P0_1_ k_ ∨ w.heap.size ≤ k_)) ho0 (by first | exact HK.out.1 | exact (show Kept w _ (fun k_ => P0_1_ k_) from by repeat (first | (with_reducible first | exact HK.out | apply Kept.alloc | apply Kept.drewN | apply Kept.drew | refine Kept.setCell ?_ (.inr GW149.out) _ | refine Kept.setCell ?_ (.inr GW150.out) _) | exact HK.out)).1) (fun k_ h_ => .inr h_)) (Kd.R_lt (uR HO_150001.out))) (below_size (uH HB.out))); replace HO_150001 := zA (Kd.R_elder' (uR HO_150001.out) (Kd.R_base ho0) hb); replace BK149 := xB BK149 hb; replace BK150 := xB BK150 hb; replace HK := zA (Kept.below (S := (fun k_ => P0_1_ k_)) (by repeat (first | (with_reducible first | exact HK.out | apply Kept.alloc | apply Kept.drewN | apply Kept.drew | refine Kept.setCell ?_ (.inr GW149.out) _ | refine Kept.setCell ?_ (.inr GW150.out) _) | exact HK.out)) hb); replace HB := xH HB hb; (try clear hb); (try clear hb2); (try clear hk); (try clear hi); (try clear ho0); obtain ⟨Ao33, co33, eo33⟩ := Kd.R_slice HO155.out; subst eo33; have hcz34_0 := bc BK149 0; have hcz34_1 := bc BK149 1; have hcz34_2 := bc BK149 2; have hfz34_0 := bf BK149 0; have hfz34_1 := bf BK149 1; have hfz34_2 := bf BK149 2))
       have n0_ : Aside0 (Kd.R (Kd.int .i64) 2 (w32.setCell ⟨gb149, 2, none⟩ (.slice Ao33 t153.length co33)) w0.heap.size (fun k_ => (P0_1_ k_ ∨ w.heap.size ≤ k_) ∧ ax k_ (.slice Ao33 t153.length co33)) (.slice Ao5 l0_1.length co5) l0_1) := ⟨uR (Kd.R_mono (Kd.R_far (p := ⟨gb149, 2, none⟩) (Kd.R_types HO_150001.out BK149.out (by decide)) (fun _ hk => hk.2) (.slice Ao33 t153.length co33)) (fun _ hk => ⟨hk.1.1, hk.1.2⟩))⟩
       have n1_ : Aside0 (Kd.R (Kd.int .i64) 2 (w32.setCell ⟨gb149, 2, none⟩ (.slice Ao33 t153.length co33)) w0.heap.size (fun k_ => (P0_1_ k_ ∨ w.heap.size ≤ k_) ∧ ax k_ (.slice Ao5 l0_1.length co5)) (.slice Ao33 t153.length co33) t153) := ⟨uR (Kd.R_mono (Kd.R_far (p := ⟨gb149, 2, none⟩) (Kd.R_types HO155.out BK149.out (by decide)) (fun _ hk => hk.2) (.slice Ao33 t153.length co33)) (fun _ hk => ⟨hk.1.1.1, hk.1.2⟩))⟩
       have n2_ : Aside0 ((w32.setCell ⟨gb149, 2, none⟩ (.slice Ao33 t153.length co33)).heap[gb149]? = some (.cells #[.int .i64 a0_0, .slice Ao5 l0_1.length co5, .slice Ao33 t153.length co33] 51 (0, 0))) := ⟨by (repeat refine up1 ?_); refine blk_put (cs := #[.int .i64 a0_0, .slice Ao5 l0_1.length co5, .slice A0_2 l0_2.length c0_2]) ?_ 2 _ rfl; (repeat refine up1 ?_); exact BK149.out⟩
       have n3_ : Aside0 ((w32.setCell ⟨gb149, 2, none⟩ (.slice Ao33 t153.length co33)).heap[gb150]? = some (.cells #[.int .i64 0, .slice none 0 0, .slice none 0 0] 51 (0, 0))) := ⟨by (repeat refine up1 ?_); refine blk_far ?_ NB150_149.out _; (repeat refine up1 ?_); exact BK150.out⟩
       have n4_ : Aside0 (Kept w (w32.setCell ⟨gb149, 2, none⟩ (.slice Ao33 t153.length co33)) (fun k_ => P0_1_ k_)) := ⟨by repeat (first | (with_reducible first | exact HK.out | apply Kept.alloc | apply Kept.drewN | apply Kept.drew | refine Kept.setCell ?_ (.inr GW149.out) _ | refine Kept.setCell ?_ (.inr GW150.out) _) | exact HK.out)⟩
       have n5_ : Aside0 (Below w0.heap.size w0 (w32.setCell ⟨gb149, 2, none⟩ (.slice Ao33 t153.length co33))) := ⟨uH HB.out⟩
       (try clear HO_150001); (try clear HO155); (try clear BK149); (try clear BK150); (try clear HK); (try clear HB)
       (try rw [setCell_drewN])
       generalize (w32.setCell ⟨gb149, 2, none⟩ (.slice Ao33 t153.length co33)) = w35 at n0_ n1_ n2_ n3_ n4_ n5_ ⊢
       have HO_150001 := n0_
       have HO155 := n1_
       have BK149 := n2_
       have BK150 := n3_
       have HK := n4_
       have HB := n5_
       clear n0_ n1_ n2_ n3_ n4_ n5_
       replace HO_150001 := zA (Kd.R_drew HO_150001.out)
       replace HO155 := zA (Kd.R_drew HO155.out)
       replace BK149 := zA (blk_drew BK149.out)
       replace BK150 := zA (blk_drew BK150.out)
       replace HK := zA (Kept.drew HK.out)
       replace HB := zA (below_drew1 HB.out)
       have p156 : 0 ≤ (x7_3 : Int) := of_decide_eq_true (by first | (with_reducible assumption) | assumption)
       have q156 : x7_3 < (t153.length : Int) := of_decide_eq_true (by first | (with_reducible assumption) | assumption)
       obtain ⟨ad156, e156, hx156_0⟩ := Kd.at_int (Kd.R_reads' HO155.out).2.2 x7_3 p156 q156
       cases e156
       replace p156 := eq_true p156
       replace q156 := eq_true q156
       have p29 : 0 ≤ (x7_3 : Int) := of_decide_eq_true (by first | (with_reducible assumption) | assumption)
       have q29 : (x7_3 : Int) < ((t153.length : Int) : Int) := of_decide_eq_true (by first | (with_reducible assumption) | assumption)
       obtain ⟨go29, co29, eo29, gb29, gl29, cl29, HG29⟩ := Kd.R_form HO155.out (by omega)
       (first | cases eo29 | (injection eo29 with ea_ en_ ec_; (first | subst ea_ | (injection ea_ with ea_; subst ea_)); subst ec_; clear en_))
       have GB29 := zA gb29; have := geI GB29
       have GG29 := zA HG29
       clear gb29 gl29 HG29
       have HMgo29 := zA (show (P0_1_ go29 ∨ w.heap.size ≤ go29) from (HO155.out.1 _ rfl).1)
       (first | simp only [add_plain] at hx156_0 | skip)
       obtain ⟨hx29_0, hf29_0⟩ := Kd.R_celln 0 HO155.out (x7_3 : Int) p29 q29
       replace p29 := eq_true p29
       replace q29 := eq_true q29
       have HP37 := Kd.R_putn HO155.out (x7_3 : Int) (Int.tmod (wrap64 ((rd t153 x7_3) + a2)) a0_0)
       rw [← Ny157.out] at HP37
       have HQ37 := zA HP37
       clear HP37
       refine start_ (n := 15) (S := fun w' => w'.cell? ⟨gb149, 0, none⟩ = some (.int .i64 a0_0) ∧ w'.cell? ⟨gb149, 1, none⟩ = some (.slice Ao5 l0_1.length co5) ∧ w'.cell? ⟨gb149, 2, none⟩ = some (.slice (some ⟨go29, 0, none⟩) t153.length co33) ∧ w'.cell? ⟨go29, (x7_3).toNat, none⟩ = some (.int .i64 (rd t153 x7_3))) (ds := [14]) #[false, false, false, false, false, false, false, false, false, false, false, false, false, false, false] (by kernel_rfl) rfl rfl ⟨bcu BK149 0, bcu BK149 1, bcu BK149 2, hx156_0⟩ (fun hHeld => ?_); refine with_tabW spec_l07Put.tab6 spec_l07Put.bits6 (fun HT_ HW_ => ?_)
       generalize w35.drew = w36 at HO_150001 HO155 BK149 BK150 HK HB GG29 HQ37 hf29_0 hx156_0 hx29_0 hHeld ⊢
       refine pu_ 0 44 (bl 15 1) HT_ ?_
       refine pu_ 2 46 (bl 15 5) HT_ ?_
       refine pu_ 3 47 (bl 15 13) HT_ ?_
       refine pu_ 5 49 (bl 15 45) HT_ ?_
       refine pu_ 8 52 (bl 15 301) HT_ ?_
       refine pu_ 10 54 (bl 15 1325) HT_ ?_
       refine ta_ 1 45 (bl 15 1327) HT_ HW_ hHeld ?_
       refine ta_ 4 48 (bl 15 1343) HT_ HW_ hHeld ?_
       refine pu_ 6 50 (bl 15 1407) HT_ ?_
       refine ta_ 7 51 (bl 15 1535) HT_ HW_ hHeld ?_
       refine pu_ 9 53 (bl 15 2047) HT_ ?_
       refine ta_ 11 55 (bl 15 4095) HT_ HW_ hHeld ?_
       refine pu_ 12 56 (bl 15 8191) HT_ ?_
       refine pu_ 13 57 (bl 15 16383) HT_ ?_
       refine last_ (i := 14) (N := none) (bl 15 32767) rfl rfl (one_of HT_.out (by kernel_rfl)) (by decide) (fun K hK => ?_)
       refine skip_ (w1 := ?_) (by rfl) rfl ?_ ?_
       rotate_left
       ·go_simp
        rfl
       refine hK.out _ _ ?_
       clear hK K
       refine done_ (done_of HT_.out (by kernel_rfl)) ?_
       have n0_ : Aside0 (Kd.R (Kd.int .i64) 2 (w36.setCell ⟨go29, (x7_3 : Int).toNat, none⟩ (.int .i64 (Int.tmod (wrap64 ((rd t153 x7_3) + a2)) a0_0))) w0.heap.size (fun k_ => (P0_1_ k_ ∨ w.heap.size ≤ k_) ∧ ax k_ (.slice (some ⟨go29, 0, none⟩) t153.length co33)) (.slice Ao5 l0_1.length co5) l0_1) := ⟨uR (Kd.R_mono (Kd.R_far (p := ⟨go29, (x7_3 : Int).toNat, none⟩) (Kd.R_mono HO_150001.out (fun k_ hk => (⟨hk, fun e_ => hk.2 (by rw [e_]; rfl)⟩ : _ ∧ k_ ≠ go29))) (fun _ hk => hk.2) (.int .i64 (Int.tmod (wrap64 ((rd t153 x7_3) + a2)) a0_0))) (fun _ hk => ⟨hk.1.1, hk.1.2⟩))⟩
       have n1_ : Aside0 (Kd.R (Kd.int .i64) 2 (w36.setCell ⟨go29, (x7_3 : Int).toNat, none⟩ (.int .i64 (Int.tmod (wrap64 ((rd t153 x7_3) + a2)) a0_0))) w0.heap.size (fun k_ => (P0_1_ k_ ∨ w.heap.size ≤ k_) ∧ ax k_ (.slice Ao5 l0_1.length co5)) (.slice (some ⟨go29, 0, none⟩) t153.length co33) y157) := ⟨uR HQ37.out⟩
       have n2_ : Aside0 ((w36.setCell ⟨go29, (x7_3 : Int).toNat, none⟩ (.int .i64 (Int.tmod (wrap64 ((rd t153 x7_3) + a2)) a0_0))).heap[gb149]? = some (.cells #[.int .i64 a0_0, .slice Ao5 l0_1.length co5, .slice (some ⟨go29, 0, none⟩) t153.length co33] 51 (0, 0))) := ⟨by (repeat refine up1 ?_); refine blk_far ?_ (by have h_ := Kd.R_ne HO155.out BK149.out (by decide); intro e_; exact h_ (by rw [e_]; rfl)) _; (repeat refine up1 ?_); exact BK149.out⟩
       have n3_ : Aside0 ((w36.setCell ⟨go29, (x7_3 : Int).toNat, none⟩ (.int .i64 (Int.tmod (wrap64 ((rd t153 x7_3) + a2)) a0_0))).heap[gb150]? = some (.cells #[.int .i64 0, .slice none 0 0, .slice none 0 0] 51 (0, 0))) := ⟨by (repeat refine up1 ?_); refine blk_far ?_ (by have h_ := Kd.R_ne HO155.out BK150.out (by decide); intro e_; exact h_ (by rw [e_]; rfl)) _; (repeat refine up1 ?_); exact BK150.out⟩
       have n4_ : Aside0 (Kept w (w36.setCell ⟨go29, (x7_3 : Int).toNat, none⟩ (.int .i64 (Int.tmod (wrap64 ((rd t153 x7_3) + a2)) a0_0))) (fun k_ => P0_1_ k_)) := ⟨by repeat (first | (with_reducible first | exact HK.out | apply Kept.alloc | apply Kept.drewN | apply Kept.drew | refine Kept.setCell ?_ HMgo29.out _ | refine Kept.setCell ?_ (.inr GW149.out) _ | refine Kept.setCell ?_ (.inr GW150.out) _) | exact HK.out)⟩
       have n5_ : Aside0 (Below w0.heap.size w0 (w36.setCell ⟨go29, (x7_3 : Int).toNat, none⟩ (.int .i64 (Int.tmod (wrap64 ((rd t153 x7_3) + a2)) a0_0)))) := ⟨uH HB.out⟩
       (try clear HO_150001); (try clear HO155); (try clear BK149); (try clear BK150); (try clear HK); (try clear HB)
       (try rw [setCell_drewN])
       generalize (w36.setCell ⟨go29, (x7_3 : Int).toNat, none⟩ (.int .i64 (Int.tmod (wrap64 ((rd t153 x7_3) + a2)) a0_0))) = w38 at n0_ n1_ n2_ n3_ n4_ n5_ ⊢
       have HO_150001 := n0_
       have HO155 := n1_
       have BK149 := n2_
       have BK150 := n3_
       have HK := n4_
       have HB := n5_
       clear n0_ n1_ n2_ n3_ n4_ n5_
       have hcz39_0 := bc BK149 0
       have hcz39_1 := bc BK149 1
       have hcz39_2 := bc BK149 2
       have hfz39_0 := bf BK149 0
       have hfz39_1 := bf BK149 1
       have hfz39_2 := bf BK149 2
       have hcz40_0 := bc BK150 0
       have hcz40_1 := bc BK150 1
       have hcz40_2 := bc BK150 2
       have hfz40_0 := bf BK150 0
       have hfz40_1 := bf BK150 1
       have hfz40_2 := bf BK150 2
       try go_wp2
       refine bodyPost_ret (results_cell_row rfl _ _ gb150 51 #[.int .i64 a0_0, .slice Ao5 l0_1.length co5, .slice (some ⟨go29, 0, none⟩) t153.length co33] (0, 0) _ rfl (by (repeat refine up1 ?_); refine blk_put (cs := #[.int .i64 a0_0, .slice Ao5 l0_1.length co5, .slice none 0 0]) ?_ 2 _ rfl; (repeat refine up1 ?_); refine blk_put (cs := #[.int .i64 a0_0, .slice none 0 0, .slice none 0 0]) ?_ 1 _ rfl; (repeat refine up1 ?_); refine blk_put (cs := #[.int .i64 0, .slice none 0 0, .slice none 0 0]) ?_ 0 _ rfl; (repeat refine up1 ?_); exact BK150.out) Try.underlying51 rfl (by kernel_rfl)) rfl ?_
       exact ⟨_, _, by first | rfl | (simp [errW_none, errW_some] <;> rfl) | (simp [*, errW_none, errW_some] <;> rfl), uR (Kd.R_mono (Kd.R_far (p := ⟨gb150, 2, none⟩) (Kd.R_far (p := ⟨gb150, 1, none⟩) (Kd.R_far (p := ⟨gb150, 0, none⟩) (Kd.R_types HO_150001.out BK150.out (by decide)) (fun _ hk => hk.2) (.int .i64 a0_0)) (fun _ hk => hk.2) (.slice Ao5 l0_1.length co5)) (fun _ hk => hk.2) (.slice (some ⟨go29, 0, none⟩) t153.length co33)) (fun _ hk => ⟨hk.1.1, hk.1.2⟩)), uR (Kd.R_mono (Kd.R_far (p := ⟨gb150, 2, none⟩) (Kd.R_far (p := ⟨gb150, 1, none⟩) (Kd.R_far (p := ⟨gb150, 0, none⟩) (Kd.R_types HO155.out BK150.out (by decide)) (fun _ hk => hk.2) (.int .i64 a0_0)) (fun _ hk => hk.2) (.slice Ao5 l0_1.length co5)) (fun _ hk => hk.2) (.slice (some ⟨go29, 0, none⟩) t153.length co33)) (fun _ hk => ⟨hk.1.1, hk.1.2⟩)), uH HB.out, by repeat (first | (with_reducible first | exact HK.out | apply Kept.alloc | apply Kept.drewN | apply Kept.drew | refine Kept.setCell ?_ (.inr GW149.out) _ | refine Kept.setCell ?_ (.inr GW150.out) _) | exact HK.out)⟩
      rw [if_pos c28] at H
      exact absurd H (by simp)
     ·replace c24 := Bool.eq_false_iff.mpr c24
      subst c24
      rw [if_neg (show ¬ (false = true) by decide)] at H
      by_cases hct_ : 0 ≤ x7_3 ∧ x7_3 ≤ (l0_1.length : Int) ∧ x7_3 ≤ (l0_2.length : Int)
      rotate_left
      ·rw [if_neg hct_] at H
       exact absurd H (by simp)
      rw [if_pos hct_] at H
      obtain ⟨hx0_, hx1_, hx2_⟩ := hct_
      obtain ⟨lA, hlA⟩ : ∃ l_ : List Int, l_ = l0_1.take (x7_3 : Int).toNat := ⟨_, rfl⟩
      obtain ⟨lB, hlB⟩ : ∃ l_ : List Int, l_ = l0_2.take (x7_3 : Int).toNat := ⟨_, rfl⟩
      obtain ⟨lC, hlC⟩ : ∃ l_ : List Int, l_ = l0_1.drop (x7_3 : Int).toNat := ⟨_, rfl⟩
      obtain ⟨lD, hlD⟩ : ∃ l_ : List Int, l_ = l0_2.drop (x7_3 : Int).toNat := ⟨_, rfl⟩
      rw [← hlA, ← hlB, ← hlC, ← hlD] at H
      have hcA := cut_take hlA hx0_ hx1_ (Kd.R_reads' HO_150001.out).2.1 Ao5
      have hcB := cut_take hlB hx0_ hx2_ HC0_2.out A0_2
      obtain ⟨AC, cC, hcCl, hcC, hCC⟩ := cut_drop hlC hx0_ hx1_ (Kd.R_reads' HO_150001.out).2.1 Ao5
      obtain ⟨AD, cD, hcDl, hcD, hDD⟩ := cut_drop hlD hx0_ hx2_ HC0_2.out A0_2
      have HLA := zA hlA
      have HLB := zA hlB
      have HX1 := zA hx1_
      have HX2 := zA hx2_
      have HCC := zA hCC
      have HDD := zA hDD
      clear hlA hlB hlC hlD hx0_ hx1_ hx2_ hCC hDD hcCl hcDl
      have H1 : ((spec_l01Own.f lA).bind fun t158 => ((some (([a1] : List Int) : List Int)).bind fun y161 => (if t158.length + y161.length < 17592186044416 then ((some (t158 ++ y161 : List Int)).bind fun y164 => ((spec_l01Own.f lB).bind fun t167 => ((some (([a2] : List Int) : List Int)).bind fun y170 => (if t167.length + y170.length < 17592186044416 then ((some (t167 ++ y170 : List Int)).bind fun y173 => (if y164.length + lC.length < 17592186044416 then (if y173.length + lD.length < 17592186044416 then (some (a0_0, (y164 ++ lC), (y173 ++ lD))) else (none)) else (none))) else (none))))) else (none)))) = some (r1, r2, r3) := H
      clear H
      have H := H1
      clear H1
      replace H := Option.bind_eq_some_iff.mp H
      obtain ⟨t158, A410, H⟩ := H
      replace H : ((some (([a1] : List Int) : List Int)).bind fun y161 => (if t158.length + y161.length < 17592186044416 then ((some (t158 ++ y161 : List Int)).bind fun y164 => ((spec_l01Own.f lB).bind fun t167 => ((some (([a2] : List Int) : List Int)).bind fun y170 => (if t167.length + y170.length < 17592186044416 then ((some (t167 ++ y170 : List Int)).bind fun y173 => (if y164.length + lC.length < 17592186044416 then (if y173.length + lD.length < 17592186044416 then (some (a0_0, (y164 ++ lC), (y173 ++ lD))) else (none)) else (none))) else (none))))) else (none))) = some (r1, r2, r3) := H
      have A41 := zA A410
      clear A410
      obtain ⟨y161, hy161⟩ : ∃ y_ : List Int, y_ = (([a1] : List Int)) := ⟨_, rfl⟩
      replace H : (if t158.length + y161.length < 17592186044416 then ((some (t158 ++ y161 : List Int)).bind fun y164 => ((spec_l01Own.f lB).bind fun t167 => ((some (([a2] : List Int) : List Int)).bind fun y170 => (if t167.length + y170.length < 17592186044416 then ((some (t167 ++ y170 : List Int)).bind fun y173 => (if y164.length + lC.length < 17592186044416 then (if y173.length + lD.length < 17592186044416 then (some (a0_0, (y164 ++ lC), (y173 ++ lD))) else (none)) else (none))) else (none))))) else (none)) = some (r1, r2, r3) := by first | (rw [hy161]; exact H) | exact H
      have Ny161 := zA hy161
      clear hy161
      by_cases c42 : t158.length + y161.length < 17592186044416
      rotate_left
      ·rw [if_neg c42] at H
       exact absurd H (by simp)

      rw [if_pos c42] at H
      have LMc42 := zA c42
      clear c42
      obtain ⟨y164, hy164⟩ : ∃ y_ : List Int, y_ = (t158 ++ y161) := ⟨_, rfl⟩
      replace H : ((spec_l01Own.f lB).bind fun t167 => ((some (([a2] : List Int) : List Int)).bind fun y170 => (if t167.length + y170.length < 17592186044416 then ((some (t167 ++ y170 : List Int)).bind fun y173 => (if y164.length + lC.length < 17592186044416 then (if y173.length + lD.length < 17592186044416 then (some (a0_0, (y164 ++ lC), (y173 ++ lD))) else (none)) else (none))) else (none)))) = some (r1, r2, r3) := by first | (rw [hy164]; exact H) | exact H
      have Ny164 := zA hy164
      clear hy164
      replace H := Option.bind_eq_some_iff.mp H
      obtain ⟨t167, A430, H⟩ := H
      replace H : ((some (([a2] : List Int) : List Int)).bind fun y170 => (if t167.length + y170.length < 17592186044416 then ((some (t167 ++ y170 : List Int)).bind fun y173 => (if y164.length + lC.length < 17592186044416 then (if y173.length + lD.length < 17592186044416 then (some (a0_0, (y164 ++ lC), (y173 ++ lD))) else (none)) else (none))) else (none))) = some (r1, r2, r3) := H
      have A43 := zA A430
      clear A430
      obtain ⟨y170, hy170⟩ : ∃ y_ : List Int, y_ = (([a2] : List Int)) := ⟨_, rfl⟩
      replace H : (if t167.length + y170.length < 17592186044416 then ((some (t167 ++ y170 : List Int)).bind fun y173 => (if y164.length + lC.length < 17592186044416 then (if y173.length + lD.length < 17592186044416 then (some (a0_0, (y164 ++ lC), (y173 ++ lD))) else (none)) else (none))) else (none)) = some (r1, r2, r3) := by first | (rw [hy170]; exact H) | exact H
      have Ny170 := zA hy170
      clear hy170
      by_cases c44 : t167.length + y170.length < 17592186044416
      rotate_left
      ·rw [if_neg c44] at H
       exact absurd H (by simp)
      rw [if_pos c44] at H
      have LMc44 := zA c44
      clear c44
      obtain ⟨y173, hy173⟩ : ∃ y_ : List Int, y_ = (t167 ++ y170) := ⟨_, rfl⟩
      replace H : (if y164.length + lC.length < 17592186044416 then (if y173.length + lD.length < 17592186044416 then (some (a0_0, (y164 ++ lC), (y173 ++ lD))) else (none)) else (none)) = some (r1, r2, r3) := by first | (rw [hy173]; exact H) | exact H
      have Ny173 := zA hy173
      clear hy173
      by_cases c45 : y164.length + lC.length < 17592186044416
      rotate_left
      ·rw [if_neg c45] at H
       exact absurd H (by simp)
      rw [if_pos c45] at H
      have LMc45 := zA c45
      clear c45
      obtain ⟨y176, hy176⟩ : ∃ y_ : List Int, y_ = (y164 ++ lC) := ⟨_, rfl⟩
      replace H : (if y173.length + lD.length < 17592186044416 then (some (a0_0, y176, (y173 ++ lD))) else (none)) = some (r1, r2, r3) := by first | (rw [hy176]; exact H) | exact H
      have Ny176 := zA hy176
      clear hy176
      by_cases c46 : y173.length + lD.length < 17592186044416
      rotate_left
      ·rw [if_neg c46] at H
       exact absurd H (by simp)
      rw [if_pos c46] at H
      have LMc46 := zA c46
      clear c46
      obtain ⟨y179, hy179⟩ : ∃ y_ : List Int, y_ = (y173 ++ lD) := ⟨_, rfl⟩
      replace H : (some (a0_0, y176, y179)) = some (r1, r2, r3) := by first | (rw [hy179]; exact H) | exact H
      have Ny179 := zA hy179
      clear hy179
      simp only [Option.some.injEq, Prod.mk.injEq] at H
      obtain ⟨rfl, rfl, rfl⟩ := H
      try go_wp2
      replace HO_150001 := zA (Kd.R_drew HO_150001.out)
      replace BK149 := zA (blk_drew BK149.out)
      replace BK150 := zA (blk_drew BK150.out)
      replace HK := zA (Kept.drew HK.out)
      replace HB := zA (below_drew1 HB.out)
      refine start_ (n := 18) (S := fun w' => w'.cell? ⟨gb149, 0, none⟩ = some (.int .i64 a0_0) ∧ w'.cell? ⟨gb149, 1, none⟩ = some (.slice Ao5 l0_1.length co5) ∧ w'.cell? ⟨gb149, 2, none⟩ = some (.slice A0_2 l0_2.length c0_2)) (ds := []) #[false, false, false, false, false, false, false, false, false, false, false, false, false, false, false, false, false, false] (by kernel_rfl) rfl rfl ⟨bcu BK149 0, bcu BK149 1, bcu BK149 2⟩ (fun hHeld => ?_); refine with_tabW spec_l07Put.tab8 spec_l07Put.bits8 (fun HT_ HW_ => ?_)
      generalize wc.drew = w47 at HO_150001 BK149 BK150 HK HB hHeld ⊢
      refine pu_ 0 59 (bl 18 1) HT_ ?_
      refine pu_ 2 61 (bl 18 5) HT_ ?_
      refine pu_ 5 64 (bl 18 37) HT_ ?_
      refine pu_ 8 67 (bl 18 293) HT_ ?_
      refine pu_ 10 69 (bl 18 1317) HT_ ?_
      refine pu_ 13 72 (bl 18 9509) HT_ ?_
      refine ta_ 1 60 (bl 18 9511) HT_ HW_ hHeld ?_
      refine pu_ 3 62 (bl 18 9519) HT_ ?_
      refine ta_ 9 68 (bl 18 10031) HT_ HW_ hHeld ?_
      refine pu_ 11 70 (bl 18 12079) HT_ ?_
      refine join_ (σ := Value × Value × Value × Value × Value) 3 (bl 18 32767) (fun s_ => [(63, s_.1), (65, s_.2.1), (66, s_.2.2.1), (71, s_.2.2.2.1), (73, s_.2.2.2.2)]) (fun s_ w' => (w'.cell? ⟨gb149, 0, none⟩ = some (.int .i64 a0_0) ∧ w'.cell? ⟨gb149, 1, none⟩ = some (.slice Ao5 l0_1.length co5) ∧ w'.cell? ⟨gb149, 2, none⟩ = some (.slice A0_2 l0_2.length c0_2)) ∧ (Kd.R (Kd.int .i64) 2 w' w0.heap.size (fun k_ => (P0_1_ k_ ∨ w.heap.size ≤ k_) ∧ some k_ ≠ (s_.2.2.1 : Value).ownBlock ∧ some k_ ≠ (s_.2.2.2.1 : Value).ownBlock ∧ some k_ ≠ (s_.2.2.2.2 : Value).ownBlock ∧ ax k_ (.slice Ao5 l0_1.length co5)) s_.2.1 y161) ∧ (Kd.R (Kd.int .i64) 2 w' w0.heap.size (fun k_ => (P0_1_ k_ ∨ w.heap.size ≤ k_) ∧ some k_ ≠ (s_.2.1 : Value).ownBlock ∧ some k_ ≠ (s_.2.2.2.1 : Value).ownBlock ∧ some k_ ≠ (s_.2.2.2.2 : Value).ownBlock ∧ ax k_ (.slice Ao5 l0_1.length co5)) s_.2.2.1 y164) ∧ (Kd.R (Kd.int .i64) 2 w' w0.heap.size (fun k_ => (P0_1_ k_ ∨ w.heap.size ≤ k_) ∧ some k_ ≠ (s_.2.1 : Value).ownBlock ∧ some k_ ≠ (s_.2.2.1 : Value).ownBlock ∧ some k_ ≠ (s_.2.2.2.2 : Value).ownBlock ∧ ax k_ (.slice Ao5 l0_1.length co5)) s_.2.2.2.1 t167) ∧ (Kd.R (Kd.int .i64) 2 w' w0.heap.size (fun k_ => (P0_1_ k_ ∨ w.heap.size ≤ k_) ∧ some k_ ≠ (s_.2.1 : Value).ownBlock ∧ some k_ ≠ (s_.2.2.1 : Value).ownBlock ∧ some k_ ≠ (s_.2.2.2.1 : Value).ownBlock ∧ ax k_ (.slice Ao5 l0_1.length co5)) s_.2.2.2.2 y170) ∧ (Kd.R (Kd.int .i64) 2 w' w0.heap.size (fun k_ => (P0_1_ k_ ∨ w.heap.size ≤ k_) ∧ some k_ ≠ (s_.2.1 : Value).ownBlock ∧ some k_ ≠ (s_.2.2.1 : Value).ownBlock ∧ some k_ ≠ (s_.2.2.2.1 : Value).ownBlock ∧ some k_ ≠ (s_.2.2.2.2 : Value).ownBlock) (.slice Ao5 l0_1.length co5) l0_1) ∧ (w'.heap[gb149]? = some (.cells #[.int .i64 a0_0, .slice Ao5 l0_1.length co5, .slice A0_2 l0_2.length c0_2] 51 (0, 0))) ∧ (w'.heap[gb150]? = some (.cells #[.int .i64 0, .slice none 0 0, .slice none 0 0] 51 (0, 0))) ∧ (Kept w w' (fun k_ => P0_1_ k_)) ∧ (Below w0.heap.size w0 w')) ?_ ?_
      rotate_left
      ·intro hJ4_6_7_12_14
       refine join_ (σ := Value × Value × Value × Value) 4 (bl 18 16383) (fun s_ => [(63, s_.1), (65, s_.2.1), (66, s_.2.2.1), (71, s_.2.2.2)]) (fun s_ w' => (w'.cell? ⟨gb149, 0, none⟩ = some (.int .i64 a0_0) ∧ w'.cell? ⟨gb149, 1, none⟩ = some (.slice Ao5 l0_1.length co5) ∧ w'.cell? ⟨gb149, 2, none⟩ = some (.slice A0_2 l0_2.length c0_2)) ∧ (Kd.R (Kd.int .i64) 2 w' w0.heap.size (fun k_ => (P0_1_ k_ ∨ w.heap.size ≤ k_) ∧ some k_ ≠ (s_.2.2.1 : Value).ownBlock ∧ some k_ ≠ (s_.2.2.2 : Value).ownBlock ∧ ax k_ (.slice Ao5 l0_1.length co5)) s_.2.1 y161) ∧ (Kd.R (Kd.int .i64) 2 w' w0.heap.size (fun k_ => (P0_1_ k_ ∨ w.heap.size ≤ k_) ∧ some k_ ≠ (s_.2.1 : Value).ownBlock ∧ some k_ ≠ (s_.2.2.2 : Value).ownBlock ∧ ax k_ (.slice Ao5 l0_1.length co5)) s_.2.2.1 y164) ∧ (Kd.R (Kd.int .i64) 2 w' w0.heap.size (fun k_ => (P0_1_ k_ ∨ w.heap.size ≤ k_) ∧ some k_ ≠ (s_.2.1 : Value).ownBlock ∧ some k_ ≠ (s_.2.2.1 : Value).ownBlock ∧ ax k_ (.slice Ao5 l0_1.length co5)) s_.2.2.2 t167) ∧ (Kd.R (Kd.int .i64) 2 w' w0.heap.size (fun k_ => (P0_1_ k_ ∨ w.heap.size ≤ k_) ∧ some k_ ≠ (s_.2.1 : Value).ownBlock ∧ some k_ ≠ (s_.2.2.1 : Value).ownBlock ∧ some k_ ≠ (s_.2.2.2 : Value).ownBlock) (.slice Ao5 l0_1.length co5) l0_1) ∧ (w'.heap[gb149]? = some (.cells #[.int .i64 a0_0, .slice Ao5 l0_1.length co5, .slice A0_2 l0_2.length c0_2] 51 (0, 0))) ∧ (w'.heap[gb150]? = some (.cells #[.int .i64 0, .slice none 0 0, .slice none 0 0] 51 (0, 0))) ∧ (Kept w w' (fun k_ => P0_1_ k_)) ∧ (Below w0.heap.size w0 w')) ?_ ?_
       rotate_left
       ·intro hJ4_6_7_12
        refine join_ (σ := Value × Value × Value × Value) 4 (bl 18 28671) (fun s_ => [(63, s_.1), (65, s_.2.1), (66, s_.2.2.1), (73, s_.2.2.2)]) (fun s_ w' => (w'.cell? ⟨gb149, 0, none⟩ = some (.int .i64 a0_0) ∧ w'.cell? ⟨gb149, 1, none⟩ = some (.slice Ao5 l0_1.length co5) ∧ w'.cell? ⟨gb149, 2, none⟩ = some (.slice A0_2 l0_2.length c0_2)) ∧ (Kd.R (Kd.int .i64) 2 w' w0.heap.size (fun k_ => (P0_1_ k_ ∨ w.heap.size ≤ k_) ∧ some k_ ≠ (s_.2.2.1 : Value).ownBlock ∧ some k_ ≠ (s_.2.2.2 : Value).ownBlock ∧ ax k_ (.slice Ao5 l0_1.length co5)) s_.2.1 y161) ∧ (Kd.R (Kd.int .i64) 2 w' w0.heap.size (fun k_ => (P0_1_ k_ ∨ w.heap.size ≤ k_) ∧ some k_ ≠ (s_.2.1 : Value).ownBlock ∧ some k_ ≠ (s_.2.2.2 : Value).ownBlock ∧ ax k_ (.slice Ao5 l0_1.length co5)) s_.2.2.1 y164) ∧ (Kd.R (Kd.int .i64) 2 w' w0.heap.size (fun k_ => (P0_1_ k_ ∨ w.heap.size ≤ k_) ∧ some k_ ≠ (s_.2.1 : Value).ownBlock ∧ some k_ ≠ (s_.2.2.1 : Value).ownBlock ∧ ax k_ (.slice Ao5 l0_1.length co5)) s_.2.2.2 y170) ∧ (Kd.R (Kd.int .i64) 2 w' w0.heap.size (fun k_ => (P0_1_ k_ ∨ w.heap.size ≤ k_) ∧ some k_ ≠ (s_.2.1 : Value).ownBlock ∧ some k_ ≠ (s_.2.2.1 : Value).ownBlock ∧ some k_ ≠ (s_.2.2.2 : Value).ownBlock) (.slice Ao5 l0_1.length co5) l0_1) ∧ (w'.heap[gb149]? = some (.cells #[.int .i64 a0_0, .slice Ao5 l0_1.length co5, .slice A0_2 l0_2.length c0_2] 51 (0, 0))) ∧ (w'.heap[gb150]? = some (.cells #[.int .i64 0, .slice none 0 0, .slice none 0 0] 51 (0, 0))) ∧ (Kept w w' (fun k_ => P0_1_ k_)) ∧ (Below w0.heap.size w0 w')) ?_ ?_
        rotate_left
        ·intro hJ4_6_7_14
         refine join_ (σ := Value × Value × Value) 5 (bl 18 12287) (fun s_ => [(63, s_.1), (65, s_.2.1), (66, s_.2.2)]) (fun s_ w' => (w'.cell? ⟨gb149, 0, none⟩ = some (.int .i64 a0_0) ∧ w'.cell? ⟨gb149, 1, none⟩ = some (.slice Ao5 l0_1.length co5) ∧ w'.cell? ⟨gb149, 2, none⟩ = some (.slice A0_2 l0_2.length c0_2)) ∧ (Kd.R (Kd.int .i64) 2 w' w0.heap.size (fun k_ => (P0_1_ k_ ∨ w.heap.size ≤ k_) ∧ some k_ ≠ (s_.2.2 : Value).ownBlock ∧ ax k_ (.slice Ao5 l0_1.length co5)) s_.2.1 y161) ∧ (Kd.R (Kd.int .i64) 2 w' w0.heap.size (fun k_ => (P0_1_ k_ ∨ w.heap.size ≤ k_) ∧ some k_ ≠ (s_.2.1 : Value).ownBlock ∧ ax k_ (.slice Ao5 l0_1.length co5)) s_.2.2 y164) ∧ (Kd.R (Kd.int .i64) 2 w' w0.heap.size (fun k_ => (P0_1_ k_ ∨ w.heap.size ≤ k_) ∧ some k_ ≠ (s_.2.1 : Value).ownBlock ∧ some k_ ≠ (s_.2.2 : Value).ownBlock) (.slice Ao5 l0_1.length co5) l0_1) ∧ (w'.heap[gb149]? = some (.cells #[.int .i64 a0_0, .slice Ao5 l0_1.length co5, .slice A0_2 l0_2.length c0_2] 51 (0, 0))) ∧ (w'.heap[gb150]? = some (.cells #[.int .i64 0, .slice none 0 0, .slice none 0 0] 51 (0, 0))) ∧ (Kept w w' (fun k_ => P0_1_ k_)) ∧ (Below w0.heap.size w0 w')) ?_ ?_
         rotate_left
         ·intro hJ4_6_7
          refine join_ (σ := Value × Value × Value) 5 (bl 18 28543) (fun s_ => [(63, s_.1), (65, s_.2.1), (73, s_.2.2)]) (fun s_ w' => (w'.cell? ⟨gb149, 0, none⟩ = some (.int .i64 a0_0) ∧ w'.cell? ⟨gb149, 1, none⟩ = some (.slice Ao5 l0_1.length co5) ∧ w'.cell? ⟨gb149, 2, none⟩ = some (.slice A0_2 l0_2.length c0_2)) ∧ (Kd.R (Kd.int .i64) 2 w' w0.heap.size (fun k_ => (P0_1_ k_ ∨ w.heap.size ≤ k_) ∧ some k_ ≠ (s_.2.1 : Value).ownBlock ∧ some k_ ≠ (s_.2.2 : Value).ownBlock ∧ ax k_ (.slice Ao5 l0_1.length co5)) s_.1 t158) ∧ (Kd.R (Kd.int .i64) 2 w' w0.heap.size (fun k_ => (P0_1_ k_ ∨ w.heap.size ≤ k_) ∧ some k_ ≠ (s_.1 : Value).ownBlock ∧ some k_ ≠ (s_.2.2 : Value).ownBlock ∧ ax k_ (.slice Ao5 l0_1.length co5)) s_.2.1 y161) ∧ (Kd.R (Kd.int .i64) 2 w' w0.heap.size (fun k_ => (P0_1_ k_ ∨ w.heap.size ≤ k_) ∧ some k_ ≠ (s_.1 : Value).ownBlock ∧ some k_ ≠ (s_.2.1 : Value).ownBlock ∧ ax k_ (.slice Ao5 l0_1.length co5)) s_.2.2 y170) ∧ (Kd.R (Kd.int .i64) 2 w' w0.heap.size (fun k_ => (P0_1_ k_ ∨ w.heap.size ≤ k_) ∧ some k_ ≠ (s_.1 : Value).ownBlock ∧ some k_ ≠ (s_.2.1 : Value).ownBlock ∧ some k_ ≠ (s_.2.2 : Value).ownBlock) (.slice Ao5 l0_1.length co5) l0_1) ∧ (w'.heap[gb149]? = some (.cells #[.int .i64 a0_0, .slice Ao5 l0_1.length co5, .slice A0_2 l0_2.length c0_2] 51 (0, 0))) ∧ (w'.heap[gb150]? = some (.cells #[.int .i64 0, .slice none 0 0, .slice none 0 0] 51 (0, 0))) ∧ (Kept w w' (fun k_ => P0_1_ k_)) ∧ (Below w0.heap.size w0 w')) ?_ ?_
          rotate_left
          ·intro hJ4_6_14
           refine join_ (σ := Value × Value) 6 (bl 18 12159) (fun s_ => [(63, s_.1), (65, s_.2)]) (fun s_ w' => (w'.cell? ⟨gb149, 0, none⟩ = some (.int .i64 a0_0) ∧ w'.cell? ⟨gb149, 1, none⟩ = some (.slice Ao5 l0_1.length co5) ∧ w'.cell? ⟨gb149, 2, none⟩ = some (.slice A0_2 l0_2.length c0_2)) ∧ (Kd.R (Kd.int .i64) 2 w' w0.heap.size (fun k_ => (P0_1_ k_ ∨ w.heap.size ≤ k_) ∧ some k_ ≠ (s_.2 : Value).ownBlock ∧ ax k_ (.slice Ao5 l0_1.length co5)) s_.1 t158) ∧ (Kd.R (Kd.int .i64) 2 w' w0.heap.size (fun k_ => (P0_1_ k_ ∨ w.heap.size ≤ k_) ∧ some k_ ≠ (s_.1 : Value).ownBlock ∧ ax k_ (.slice Ao5 l0_1.length co5)) s_.2 y161) ∧ (Kd.R (Kd.int .i64) 2 w' w0.heap.size (fun k_ => (P0_1_ k_ ∨ w.heap.size ≤ k_) ∧ some k_ ≠ (s_.1 : Value).ownBlock ∧ some k_ ≠ (s_.2 : Value).ownBlock) (.slice Ao5 l0_1.length co5) l0_1) ∧ (w'.heap[gb149]? = some (.cells #[.int .i64 a0_0, .slice Ao5 l0_1.length co5, .slice A0_2 l0_2.length c0_2] 51 (0, 0))) ∧ (w'.heap[gb150]? = some (.cells #[.int .i64 0, .slice none 0 0, .slice none 0 0] 51 (0, 0))) ∧ (Kept w w' (fun k_ => P0_1_ k_)) ∧ (Below w0.heap.size w0 w')) ?_ ?_
           rotate_left
           ·intro hJ4_6
            refine join_ (σ := Value × Value) 6 (bl 18 28479) (fun s_ => [(63, s_.1), (73, s_.2)]) (fun s_ w' => (w'.cell? ⟨gb149, 0, none⟩ = some (.int .i64 a0_0) ∧ w'.cell? ⟨gb149, 1, none⟩ = some (.slice Ao5 l0_1.length co5) ∧ w'.cell? ⟨gb149, 2, none⟩ = some (.slice A0_2 l0_2.length c0_2)) ∧ (Kd.R (Kd.int .i64) 2 w' w0.heap.size (fun k_ => (P0_1_ k_ ∨ w.heap.size ≤ k_) ∧ some k_ ≠ (s_.2 : Value).ownBlock ∧ ax k_ (.slice Ao5 l0_1.length co5)) s_.1 t158) ∧ (Kd.R (Kd.int .i64) 2 w' w0.heap.size (fun k_ => (P0_1_ k_ ∨ w.heap.size ≤ k_) ∧ some k_ ≠ (s_.1 : Value).ownBlock ∧ ax k_ (.slice Ao5 l0_1.length co5)) s_.2 y170) ∧ (Kd.R (Kd.int .i64) 2 w' w0.heap.size (fun k_ => (P0_1_ k_ ∨ w.heap.size ≤ k_) ∧ some k_ ≠ (s_.1 : Value).ownBlock ∧ some k_ ≠ (s_.2 : Value).ownBlock) (.slice Ao5 l0_1.length co5) l0_1) ∧ (w'.heap[gb149]? = some (.cells #[.int .i64 a0_0, .slice Ao5 l0_1.length co5, .slice A0_2 l0_2.length c0_2] 51 (0, 0))) ∧ (w'.heap[gb150]? = some (.cells #[.int .i64 0, .slice none 0 0, .slice none 0 0] 51 (0, 0))) ∧ (Kept w w' (fun k_ => P0_1_ k_)) ∧ (Below w0.heap.size w0 w')) ?_ ?_
            rotate_left
            ·intro hJ4_14
             refine join_ (σ := Value × Value) 6 (bl 18 28527) (fun s_ => [(65, s_.1), (73, s_.2)]) (fun s_ w' => (w'.cell? ⟨gb149, 0, none⟩ = some (.int .i64 a0_0) ∧ w'.cell? ⟨gb149, 1, none⟩ = some (.slice Ao5 l0_1.length co5) ∧ w'.cell? ⟨gb149, 2, none⟩ = some (.slice A0_2 l0_2.length c0_2)) ∧ (Kd.R (Kd.int .i64) 2 w' w0.heap.size (fun k_ => (P0_1_ k_ ∨ w.heap.size ≤ k_) ∧ some k_ ≠ (s_.2 : Value).ownBlock ∧ ax k_ (.slice Ao5 l0_1.length co5)) s_.1 y161) ∧ (Kd.R (Kd.int .i64) 2 w' w0.heap.size (fun k_ => (P0_1_ k_ ∨ w.heap.size ≤ k_) ∧ some k_ ≠ (s_.1 : Value).ownBlock ∧ ax k_ (.slice Ao5 l0_1.length co5)) s_.2 y170) ∧ (Kd.R (Kd.int .i64) 2 w' w0.heap.size (fun k_ => (P0_1_ k_ ∨ w.heap.size ≤ k_) ∧ some k_ ≠ (s_.1 : Value).ownBlock ∧ some k_ ≠ (s_.2 : Value).ownBlock) (.slice Ao5 l0_1.length co5) l0_1) ∧ (w'.heap[gb149]? = some (.cells #[.int .i64 a0_0, .slice Ao5 l0_1.length co5, .slice A0_2 l0_2.length c0_2] 51 (0, 0))) ∧ (w'.heap[gb150]? = some (.cells #[.int .i64 0, .slice none 0 0, .slice none 0 0] 51 (0, 0))) ∧ (Kept w w' (fun k_ => P0_1_ k_)) ∧ (Below w0.heap.size w0 w')) ?_ ?_
             rotate_left
             ·intro hJ6_14
              refine join_ (σ := Value) 7 (bl 18 12095) (fun s_ => [(63, s_)]) (fun s_ w' => (w'.cell? ⟨gb149, 0, none⟩ = some (.int .i64 a0_0) ∧ w'.cell? ⟨gb149, 1, none⟩ = some (.slice Ao5 l0_1.length co5) ∧ w'.cell? ⟨gb149, 2, none⟩ = some (.slice A0_2 l0_2.length c0_2)) ∧ (Kd.R (Kd.int .i64) 2 w' w0.heap.size (fun k_ => (P0_1_ k_ ∨ w.heap.size ≤ k_) ∧ ax k_ (.slice Ao5 l0_1.length co5)) s_ t158) ∧ (Kd.R (Kd.int .i64) 2 w' w0.heap.size (fun k_ => (P0_1_ k_ ∨ w.heap.size ≤ k_) ∧ some k_ ≠ (s_ : Value).ownBlock) (.slice Ao5 l0_1.length co5) l0_1) ∧ (w'.heap[gb149]? = some (.cells #[.int .i64 a0_0, .slice Ao5 l0_1.length co5, .slice A0_2 l0_2.length c0_2] 51 (0, 0))) ∧ (w'.heap[gb150]? = some (.cells #[.int .i64 0, .slice none 0 0, .slice none 0 0] 51 (0, 0))) ∧ (Kept w w' (fun k_ => P0_1_ k_)) ∧ (Below w0.heap.size w0 w')) ?_ ?_
              rotate_left
              ·intro hJ4
               refine join_ (σ := Value) 7 (bl 18 12143) (fun s_ => [(65, s_)]) (fun s_ w' => (w'.cell? ⟨gb149, 0, none⟩ = some (.int .i64 a0_0) ∧ w'.cell? ⟨gb149, 1, none⟩ = some (.slice Ao5 l0_1.length co5) ∧ w'.cell? ⟨gb149, 2, none⟩ = some (.slice A0_2 l0_2.length c0_2)) ∧ (Kd.R (Kd.int .i64) 2 w' w0.heap.size (fun k_ => (P0_1_ k_ ∨ w.heap.size ≤ k_) ∧ ax k_ (.slice Ao5 l0_1.length co5)) s_ y161) ∧ (Kd.R (Kd.int .i64) 2 w' w0.heap.size (fun k_ => (P0_1_ k_ ∨ w.heap.size ≤ k_) ∧ some k_ ≠ (s_ : Value).ownBlock) (.slice Ao5 l0_1.length co5) l0_1) ∧ (w'.heap[gb149]? = some (.cells #[.int .i64 a0_0, .slice Ao5 l0_1.length co5, .slice A0_2 l0_2.length c0_2] 51 (0, 0))) ∧ (w'.heap[gb150]? = some (.cells #[.int .i64 0, .slice none 0 0, .slice none 0 0] 51 (0, 0))) ∧ (Kept w w' (fun k_ => P0_1_ k_)) ∧ (Below w0.heap.size w0 w')) ?_ ?_
               rotate_left
               ·intro hJ6
                refine join_ (σ := Value) 7 (bl 18 28463) (fun s_ => [(73, s_)]) (fun s_ w' => (w'.cell? ⟨gb149, 0, none⟩ = some (.int .i64 a0_0) ∧ w'.cell? ⟨gb149, 1, none⟩ = some (.slice Ao5 l0_1.length co5) ∧ w'.cell? ⟨gb149, 2, none⟩ = some (.slice A0_2 l0_2.length c0_2)) ∧ (Kd.R (Kd.int .i64) 2 w' w0.heap.size (fun k_ => (P0_1_ k_ ∨ w.heap.size ≤ k_) ∧ ax k_ (.slice Ao5 l0_1.length co5)) s_ y170) ∧ (Kd.R (Kd.int .i64) 2 w' w0.heap.size (fun k_ => (P0_1_ k_ ∨ w.heap.size ≤ k_) ∧ some k_ ≠ (s_ : Value).ownBlock) (.slice Ao5 l0_1.length co5) l0_1) ∧ (w'.heap[gb149]? = some (.cells #[.int .i64 a0_0, .slice Ao5 l0_1.length co5, .slice A0_2 l0_2.length c0_2] 51 (0, 0))) ∧ (w'.heap[gb150]? = some (.cells #[.int .i64 0, .slice none 0 0, .slice none 0 0] 51 (0, 0))) ∧ (Kept w w' (fun k_ => P0_1_ k_)) ∧ (Below w0.heap.size w0 w')) ?_ ?_
                rotate_left
                ·intro hJ14
                 refine three_ (i := 4) (j := 6) (k := 14) (Ni := some 63) (Nj := some 65) (Nk := some 73) (bl 18 12095) (bl 18 12143) (bl 18 28463) rfl rfl rfl rfl rfl rfl (three_of HT_.out (by kernel_rfl)) (by decide) (by decide) (by decide) (fun K hK => ?_) (fun K hK => ?_) (fun K hK => ?_)
                 ·skip
                  refine gS Try.func41 #[.slice Ao5 lA.length co5] ?_
                  with_reducible refine (spec_l01Own.calls _ _ lA t158 _ ?side1 ?side2 A41.out).mono ?_
                  (case side1 => exact uC (takeC HLA.out HX1.out (Kd.R_reads' HO_150001.out).2.2))
                  (case side2 => exact takeLe HLA.out (Kd.R_reads' HO_150001.out).2.1)
                  rintro e w48 ⟨v159, rfl, ho0, hb⟩
                  refine ⟨_, rfl, ?_⟩
                  have HO160 := zA (Kd.R_lower (Kd.R_new' (Kd.R_newM (M := fun k_ => (P0_1_ k_ ∨ w.heap.size ≤ k_)) ho0 (by first | exact HK.out.1 | exact (show Kept w _ (fun k_ => P0_1_ k_) from by repeat (first | (with_reducible first | exact HK.out | apply Kept.alloc | apply Kept.drewN | apply Kept.drew | refine Kept.setCell ?_ (.inr GW149.out) _ | refine Kept.setCell ?_ (.inr GW150.out) _) | exact HK.out)).1) (fun k_ h_ => .inr h_)) (Kd.R_lt (uR HO_150001.out))) (below_size (uH HB.out)))
                  replace HO_150001 := zA (Kd.R_elder' (uR HO_150001.out) (Kd.R_base ho0) hb)
                  replace BK149 := xB BK149 hb
                  replace BK150 := xB BK150 hb
                  replace HK := zA (Kept.below (S := (fun k_ => P0_1_ k_)) (by repeat (first | (with_reducible first | exact HK.out | apply Kept.alloc | apply Kept.drewN | apply Kept.drew | refine Kept.setCell ?_ (.inr GW149.out) _ | refine Kept.setCell ?_ (.inr GW150.out) _) | exact HK.out)) hb)
                  replace HB := xH HB hb
                  (try clear hb); (try clear hb2); (try clear hk); (try clear hi); (try clear ho0)
                  refine hK.out _ _ ⟨bcu BK149 0, bcu BK149 1, bcu BK149 2⟩ (fun hHeld => ?_)
                  clear hK K
                  refine no_ 63 ?_
                  exact norm_ (by first | (simp only [putAll, Act.put, ls, lz, ln]; done) | (simp only [putAll, Act.put, ls, lz, ln]; rfl)) (hJ4 (v159) _ ⟨hHeld, (uR (Kd.R_mono HO160.out (fun _ hk => ⟨hk.1.1, hk.2⟩))), (uR HO_150001.out), (uB BK149.out), (uB BK150.out), (by repeat (first | (with_reducible first | exact HK.out | apply Kept.alloc | apply Kept.drewN | apply Kept.drew | refine Kept.setCell ?_ (.inr GW149.out) _ | refine Kept.setCell ?_ (.inr GW150.out) _) | exact HK.out)), (uH HB.out)⟩)
                 ·skip
                  refine Kd.R_lit_step (Kd.int .i64) _ 2 ?hg (N := 65) ?hd (xs := ([a1] : List Int)) (inner := [.int .i64 a1]) (ok := fun _ => True) (okp := fun _ => True) ?hr ?hp (fun _ hk => hk) trivial (Below.refl _ _) (Nat.le_refl _) (by simp) ?_; (case hd => rfl); (case hg => rfl); (case hr => first | (go_simp; done) | (go_simp; rfl)); (case hp => exact (Reps.one (show Kd.M (Kd.int .i64) _ _ _ a1 [.int .i64 a1] from rfl) (Reps.none _ _)))
                  intro v162 w48 ho49 hb hg_ hnew_
                  clear hg_ hnew_
                  (first | rw [← Ny161.out] at ho49 | (simp only [Int.reduceToNat] at ho49; rw [← Ny161.out] at ho49))
                  have HO163 := zA (Kd.R_lower (Kd.R_new' (Kd.R_newM (M := fun k_ => (P0_1_ k_ ∨ w.heap.size ≤ k_)) ho49 (by first | exact HK.out.1 | exact (show Kept w _ (fun k_ => P0_1_ k_) from by repeat (first | (with_reducible first | exact HK.out | apply Kept.alloc | apply Kept.drewN | apply Kept.drew | refine Kept.setCell ?_ (.inr GW149.out) _ | refine Kept.setCell ?_ (.inr GW150.out) _) | exact HK.out)).1) (fun k_ h_ => .inr h_)) (Kd.R_lt (uR HO_150001.out))) (below_size (uH HB.out)))
                  replace HO_150001 := zA (Kd.R_elder' (uR HO_150001.out) (Kd.R_base ho49) hb)
                  replace BK149 := xB BK149 hb
                  replace BK150 := xB BK150 hb
                  replace HK := zA (Kept.below (S := (fun k_ => P0_1_ k_)) (by repeat (first | (with_reducible first | exact HK.out | apply Kept.alloc | apply Kept.drewN | apply Kept.drew | refine Kept.setCell ?_ (.inr GW149.out) _ | refine Kept.setCell ?_ (.inr GW150.out) _) | exact HK.out)) hb)
                  replace HB := xH HB hb
                  clear hb ho49
                  refine hK.out _ _ ⟨bcu BK149 0, bcu BK149 1, bcu BK149 2⟩ (fun hHeld => ?_)
                  clear hK K
                  refine no_ 65 ?_
                  exact norm_ (by first | (simp only [putAll, Act.put, ls, lz, ln]; done) | (simp only [putAll, Act.put, ls, lz, ln]; rfl)) (hJ6 (v162) _ ⟨hHeld, (uR (Kd.R_mono HO163.out (fun _ hk => ⟨hk.1.1, hk.2⟩))), (uR HO_150001.out), (uB BK149.out), (uB BK150.out), (by repeat (first | (with_reducible first | exact HK.out | apply Kept.alloc | apply Kept.drewN | apply Kept.drew | refine Kept.setCell ?_ (.inr GW149.out) _ | refine Kept.setCell ?_ (.inr GW150.out) _) | exact HK.out)), (uH HB.out)⟩)
                 ·skip
                  refine Kd.R_lit_step (Kd.int .i64) _ 2 ?hg (N := 73) ?hd (xs := ([a2] : List Int)) (inner := [.int .i64 a2]) (ok := fun _ => True) (okp := fun _ => True) ?hr ?hp (fun _ hk => hk) trivial (Below.refl _ _) (Nat.le_refl _) (by simp) ?_; (case hd => rfl); (case hg => rfl); (case hr => first | (go_simp; done) | (go_simp; rfl)); (case hp => exact (Reps.one (show Kd.M (Kd.int .i64) _ _ _ a2 [.int .i64 a2] from rfl) (Reps.none _ _)))
                  intro v171 w48 ho49 hb hg_ hnew_
                  clear hg_ hnew_
                  (first | rw [← Ny170.out] at ho49 | (simp only [Int.reduceToNat] at ho49; rw [← Ny170.out] at ho49))
                  have HO172 := zA (Kd.R_lower (Kd.R_new' (Kd.R_newM (M := fun k_ => (P0_1_ k_ ∨ w.heap.size ≤ k_)) ho49 (by first | exact HK.out.1 | exact (show Kept w _ (fun k_ => P0_1_ k_) from by repeat (first | (with_reducible first | exact HK.out | apply Kept.alloc | apply Kept.drewN | apply Kept.drew | refine Kept.setCell ?_ (.inr GW149.out) _ | refine Kept.setCell ?_ (.inr GW150.out) _) | exact HK.out)).1) (fun k_ h_ => .inr h_)) (Kd.R_lt (uR HO_150001.out))) (below_size (uH HB.out)))
                  replace HO_150001 := zA (Kd.R_elder' (uR HO_150001.out) (Kd.R_base ho49) hb)
                  replace BK149 := xB BK149 hb
                  replace BK150 := xB BK150 hb
                  replace HK := zA (Kept.below (S := (fun k_ => P0_1_ k_)) (by repeat (first | (with_reducible first | exact HK.out | apply Kept.alloc | apply Kept.drewN | apply Kept.drew | refine Kept.setCell ?_ (.inr GW149.out) _ | refine Kept.setCell ?_ (.inr GW150.out) _) | exact HK.out)) hb)
                  replace HB := xH HB hb
                  clear hb ho49
                  refine hK.out _ _ ⟨bcu BK149 0, bcu BK149 1, bcu BK149 2⟩ (fun hHeld => ?_)
                  clear hK K
                  refine no_ 73 ?_
                  exact norm_ (by first | (simp only [putAll, Act.put, ls, lz, ln]; done) | (simp only [putAll, Act.put, ls, lz, ln]; rfl)) (hJ14 (v171) _ ⟨hHeld, (uR (Kd.R_mono HO172.out (fun _ hk => ⟨hk.1.1, hk.2⟩))), (uR HO_150001.out), (uB BK149.out), (uB BK150.out), (by repeat (first | (with_reducible first | exact HK.out | apply Kept.alloc | apply Kept.drewN | apply Kept.drew | refine Kept.setCell ?_ (.inr GW149.out) _ | refine Kept.setCell ?_ (.inr GW150.out) _) | exact HK.out)), (uH HB.out)⟩)
                ·skip
                 rintro v171 w50 ⟨hS_, h0_, h1_, h2_, h3_, h4_, h5_⟩
                 have n0_ : Aside0 (Kd.R (Kd.int .i64) 2 w50 w0.heap.size (fun k_ => (P0_1_ k_ ∨ w.heap.size ≤ k_) ∧ ax k_ (.slice Ao5 l0_1.length co5)) v171 y170) := ⟨h0_⟩
                 have n1_ : Aside0 (Kd.R (Kd.int .i64) 2 w50 w0.heap.size (fun k_ => (P0_1_ k_ ∨ w.heap.size ≤ k_) ∧ some k_ ≠ (v171 : Value).ownBlock) (.slice Ao5 l0_1.length co5) l0_1) := ⟨h1_⟩
                 have n2_ : Aside0 (w50.heap[gb149]? = some (.cells #[.int .i64 a0_0, .slice Ao5 l0_1.length co5, .slice A0_2 l0_2.length c0_2] 51 (0, 0))) := ⟨h2_⟩
                 have n3_ : Aside0 (w50.heap[gb150]? = some (.cells #[.int .i64 0, .slice none 0 0, .slice none 0 0] 51 (0, 0))) := ⟨h3_⟩
                 have n4_ : Aside0 (Kept w w50 (fun k_ => P0_1_ k_)) := ⟨h4_⟩
                 have n5_ : Aside0 (Below w0.heap.size w0 w50) := ⟨h5_⟩
                 clear HO_150001 BK149 BK150 HK HB
                 clear h0_ h1_ h2_ h3_ h4_ h5_
                 have HO172 := n0_
                 have HO_150001 := n1_
                 have BK149 := n2_
                 have BK150 := n3_
                 have HK := n4_
                 have HB := n5_
                 clear n0_ n1_ n2_ n3_ n4_ n5_
                 have hHeld : w50.cell? ⟨gb149, 0, none⟩ = some (.int .i64 a0_0) ∧ w50.cell? ⟨gb149, 1, none⟩ = some (.slice Ao5 l0_1.length co5) ∧ w50.cell? ⟨gb149, 2, none⟩ = some (.slice A0_2 l0_2.length c0_2) := hS_
                 refine norm_ (a' := ?_) ?_ ?_
                 rotate_left
                 ·simp only [putAll, Act.put, ls, lz, ln]
                  rfl
                 refine two_ (i := 4) (j := 6) (Ni := some 63) (Nj := some 65) (bl 18 28479) (bl 18 28527) rfl rfl rfl rfl (two_of HT_.out (by kernel_rfl)) (by decide) (by decide) (fun K hK => ?_) (fun K hK => ?_)
                 ·skip
                  refine gS Try.func41 #[.slice Ao5 lA.length co5] ?_
                  with_reducible refine (spec_l01Own.calls _ _ lA t158 _ ?side1 ?side2 A41.out).mono ?_
                  (case side1 => exact uC (takeC HLA.out HX1.out (Kd.R_reads' HO_150001.out).2.2))
                  (case side2 => exact takeLe HLA.out (Kd.R_reads' HO_150001.out).2.1)
                  rintro e w51 ⟨v159, rfl, ho0, hb⟩
                  refine ⟨_, rfl, ?_⟩
                  have HO160 := zA (Kd.R_lower (Kd.R_new' (Kd.R_new' (Kd.R_newM (M := fun k_ => (P0_1_ k_ ∨ w.heap.size ≤ k_)) ho0 (by first | exact HK.out.1 | exact (show Kept w _ (fun k_ => P0_1_ k_) from by repeat (first | (with_reducible first | exact HK.out | apply Kept.alloc | apply Kept.drewN | apply Kept.drew | refine Kept.setCell ?_ (.inr GW149.out) _ | refine Kept.setCell ?_ (.inr GW150.out) _) | exact HK.out)).1) (fun k_ h_ => .inr h_)) (Kd.R_lt (uR HO_150001.out))) (Kd.R_lt (uR HO172.out))) (below_size (uH HB.out)))
                  replace HO_150001 := zA (Kd.R_elder' (uR HO_150001.out) (Kd.R_base ho0) hb)
                  replace HO172 := zA (Kd.R_elder' (uR HO172.out) (Kd.R_base ho0) hb)
                  replace BK149 := xB BK149 hb
                  replace BK150 := xB BK150 hb
                  replace HK := zA (Kept.below (S := (fun k_ => P0_1_ k_)) (by repeat (first | (with_reducible first | exact HK.out | apply Kept.alloc | apply Kept.drewN | apply Kept.drew | refine Kept.setCell ?_ (.inr GW149.out) _ | refine Kept.setCell ?_ (.inr GW150.out) _) | exact HK.out)) hb)
                  replace HB := xH HB hb
                  (try clear hb); (try clear hb2); (try clear hk); (try clear hi); (try clear ho0)
                  refine hK.out _ _ ⟨bcu BK149 0, bcu BK149 1, bcu BK149 2⟩ (fun hHeld => ?_)
                  clear hK K
                  refine no_ 63 ?_
                  exact norm_ (by first | (simp only [putAll, Act.put, ls, lz, ln]; done) | (simp only [putAll, Act.put, ls, lz, ln]; rfl)) (hJ4_14 (v159, v171) _ ⟨hHeld, (uR (Kd.R_mono HO160.out (fun _ hk => ⟨hk.1.1.1, ⟨hk.2, hk.1.2⟩⟩))), (uR (Kd.R_mono HO172.out (fun _ hk => ⟨hk.1.1, ⟨hk.2, hk.1.2⟩⟩))), (uR (Kd.R_mono HO_150001.out (fun _ hk => ⟨hk.1.1, ⟨hk.2, hk.1.2⟩⟩))), (uB BK149.out), (uB BK150.out), (by repeat (first | (with_reducible first | exact HK.out | apply Kept.alloc | apply Kept.drewN | apply Kept.drew | refine Kept.setCell ?_ (.inr GW149.out) _ | refine Kept.setCell ?_ (.inr GW150.out) _) | exact HK.out)), (uH HB.out)⟩)
                 ·skip
                  refine Kd.R_lit_step (Kd.int .i64) _ 2 ?hg (N := 65) ?hd (xs := ([a1] : List Int)) (inner := [.int .i64 a1]) (ok := fun _ => True) (okp := fun _ => True) ?hr ?hp (fun _ hk => hk) trivial (Below.refl _ _) (Nat.le_refl _) (by simp) ?_; (case hd => rfl); (case hg => rfl); (case hr => first | (go_simp; done) | (go_simp; rfl)); (case hp => exact (Reps.one (show Kd.M (Kd.int .i64) _ _ _ a1 [.int .i64 a1] from rfl) (Reps.none _ _)))
                  intro v162 w51 ho52 hb hg_ hnew_
                  clear hg_ hnew_
                  (first | rw [← Ny161.out] at ho52 | (simp only [Int.reduceToNat] at ho52; rw [← Ny161.out] at ho52))
                  have HO163 := zA (Kd.R_lower (Kd.R_new' (Kd.R_new' (Kd.R_newM (M := fun k_ => (P0_1_ k_ ∨ w.heap.size ≤ k_)) ho52 (by first | exact HK.out.1 | exact (show Kept w _ (fun k_ => P0_1_ k_) from by repeat (first | (with_reducible first | exact HK.out | apply Kept.alloc | apply Kept.drewN | apply Kept.drew | refine Kept.setCell ?_ (.inr GW149.out) _ | refine Kept.setCell ?_ (.inr GW150.out) _) | exact HK.out)).1) (fun k_ h_ => .inr h_)) (Kd.R_lt (uR HO_150001.out))) (Kd.R_lt (uR HO172.out))) (below_size (uH HB.out)))
                  replace HO_150001 := zA (Kd.R_elder' (uR HO_150001.out) (Kd.R_base ho52) hb)
                  replace HO172 := zA (Kd.R_elder' (uR HO172.out) (Kd.R_base ho52) hb)
                  replace BK149 := xB BK149 hb
                  replace BK150 := xB BK150 hb
                  replace HK := zA (Kept.below (S := (fun k_ => P0_1_ k_)) (by repeat (first | (with_reducible first | exact HK.out | apply Kept.alloc | apply Kept.drewN | apply Kept.drew | refine Kept.setCell ?_ (.inr GW149.out) _ | refine Kept.setCell ?_ (.inr GW150.out) _) | exact HK.out)) hb)
                  replace HB := xH HB hb
                  clear hb ho52
                  refine hK.out _ _ ⟨bcu BK149 0, bcu BK149 1, bcu BK149 2⟩ (fun hHeld => ?_)
                  clear hK K
                  refine no_ 65 ?_
                  exact norm_ (by first | (simp only [putAll, Act.put, ls, lz, ln]; done) | (simp only [putAll, Act.put, ls, lz, ln]; rfl)) (hJ6_14 (v162, v171) _ ⟨hHeld, (uR (Kd.R_mono HO163.out (fun _ hk => ⟨hk.1.1.1, ⟨hk.2, hk.1.2⟩⟩))), (uR (Kd.R_mono HO172.out (fun _ hk => ⟨hk.1.1, ⟨hk.2, hk.1.2⟩⟩))), (uR (Kd.R_mono HO_150001.out (fun _ hk => ⟨hk.1.1, ⟨hk.2, hk.1.2⟩⟩))), (uB BK149.out), (uB BK150.out), (by repeat (first | (with_reducible first | exact HK.out | apply Kept.alloc | apply Kept.drewN | apply Kept.drew | refine Kept.setCell ?_ (.inr GW149.out) _ | refine Kept.setCell ?_ (.inr GW150.out) _) | exact HK.out)), (uH HB.out)⟩)
               ·skip
                rintro v162 w50 ⟨hS_, h0_, h1_, h2_, h3_, h4_, h5_⟩
                have n0_ : Aside0 (Kd.R (Kd.int .i64) 2 w50 w0.heap.size (fun k_ => (P0_1_ k_ ∨ w.heap.size ≤ k_) ∧ ax k_ (.slice Ao5 l0_1.length co5)) v162 y161) := ⟨h0_⟩
                have n1_ : Aside0 (Kd.R (Kd.int .i64) 2 w50 w0.heap.size (fun k_ => (P0_1_ k_ ∨ w.heap.size ≤ k_) ∧ some k_ ≠ (v162 : Value).ownBlock) (.slice Ao5 l0_1.length co5) l0_1) := ⟨h1_⟩
                have n2_ : Aside0 (w50.heap[gb149]? = some (.cells #[.int .i64 a0_0, .slice Ao5 l0_1.length co5, .slice A0_2 l0_2.length c0_2] 51 (0, 0))) := ⟨h2_⟩
                have n3_ : Aside0 (w50.heap[gb150]? = some (.cells #[.int .i64 0, .slice none 0 0, .slice none 0 0] 51 (0, 0))) := ⟨h3_⟩
                have n4_ : Aside0 (Kept w w50 (fun k_ => P0_1_ k_)) := ⟨h4_⟩
                have n5_ : Aside0 (Below w0.heap.size w0 w50) := ⟨h5_⟩
                clear HO_150001 BK149 BK150 HK HB
                clear h0_ h1_ h2_ h3_ h4_ h5_
                have HO163 := n0_
                have HO_150001 := n1_
                have BK149 := n2_
                have BK150 := n3_
                have HK := n4_
                have HB := n5_
                clear n0_ n1_ n2_ n3_ n4_ n5_
                have hHeld : w50.cell? ⟨gb149, 0, none⟩ = some (.int .i64 a0_0) ∧ w50.cell? ⟨gb149, 1, none⟩ = some (.slice Ao5 l0_1.length co5) ∧ w50.cell? ⟨gb149, 2, none⟩ = some (.slice A0_2 l0_2.length c0_2) := hS_
                refine norm_ (a' := ?_) ?_ ?_
                rotate_left
                ·simp only [putAll, Act.put, ls, lz, ln]
                 rfl
                refine two_ (i := 4) (j := 14) (Ni := some 63) (Nj := some 73) (bl 18 12159) (bl 18 28527) rfl rfl rfl rfl (two_of HT_.out (by kernel_rfl)) (by decide) (by decide) (fun K hK => ?_) (fun K hK => ?_)
                ·skip
                 refine gS Try.func41 #[.slice Ao5 lA.length co5] ?_
                 with_reducible refine (spec_l01Own.calls _ _ lA t158 _ ?side1 ?side2 A41.out).mono ?_
                 (case side1 => exact uC (takeC HLA.out HX1.out (Kd.R_reads' HO_150001.out).2.2))
                 (case side2 => exact takeLe HLA.out (Kd.R_reads' HO_150001.out).2.1)
                 rintro e w51 ⟨v159, rfl, ho0, hb⟩
                 refine ⟨_, rfl, ?_⟩
                 have HO160 := zA (Kd.R_lower (Kd.R_new' (Kd.R_new' (Kd.R_newM (M := fun k_ => (P0_1_ k_ ∨ w.heap.size ≤ k_)) ho0 (by first | exact HK.out.1 | exact (show Kept w _ (fun k_ => P0_1_ k_) from by repeat (first | (with_reducible first | exact HK.out | apply Kept.alloc | apply Kept.drewN | apply Kept.drew | refine Kept.setCell ?_ (.inr GW149.out) _ | refine Kept.setCell ?_ (.inr GW150.out) _) | exact HK.out)).1) (fun k_ h_ => .inr h_)) (Kd.R_lt (uR HO_150001.out))) (Kd.R_lt (uR HO163.out))) (below_size (uH HB.out)))
                 replace HO_150001 := zA (Kd.R_elder' (uR HO_150001.out) (Kd.R_base ho0) hb)
                 replace HO163 := zA (Kd.R_elder' (uR HO163.out) (Kd.R_base ho0) hb)
                 replace BK149 := xB BK149 hb
                 replace BK150 := xB BK150 hb
                 replace HK := zA (Kept.below (S := (fun k_ => P0_1_ k_)) (by repeat (first | (with_reducible first | exact HK.out | apply Kept.alloc | apply Kept.drewN | apply Kept.drew | refine Kept.setCell ?_ (.inr GW149.out) _ | refine Kept.setCell ?_ (.inr GW150.out) _) | exact HK.out)) hb)
                 replace HB := xH HB hb
                 (try clear hb); (try clear hb2); (try clear hk); (try clear hi); (try clear ho0)
                 refine hK.out _ _ ⟨bcu BK149 0, bcu BK149 1, bcu BK149 2⟩ (fun hHeld => ?_)
                 clear hK K
                 refine no_ 63 ?_
                 exact norm_ (by first | (simp only [putAll, Act.put, ls, lz, ln]; done) | (simp only [putAll, Act.put, ls, lz, ln]; rfl)) (hJ4_6 (v159, v162) _ ⟨hHeld, (uR (Kd.R_mono HO160.out (fun _ hk => ⟨hk.1.1.1, ⟨hk.2, hk.1.2⟩⟩))), (uR (Kd.R_mono HO163.out (fun _ hk => ⟨hk.1.1, ⟨hk.2, hk.1.2⟩⟩))), (uR (Kd.R_mono HO_150001.out (fun _ hk => ⟨hk.1.1, ⟨hk.2, hk.1.2⟩⟩))), (uB BK149.out), (uB BK150.out), (by repeat (first | (with_reducible first | exact HK.out | apply Kept.alloc | apply Kept.drewN | apply Kept.drew | refine Kept.setCell ?_ (.inr GW149.out) _ | refine Kept.setCell ?_ (.inr GW150.out) _) | exact HK.out)), (uH HB.out)⟩)
                ·skip
                 refine Kd.R_lit_step (Kd.int .i64) _ 2 ?hg (N := 73) ?hd (xs := ([a2] : List Int)) (inner := [.int .i64 a2]) (ok := fun _ => True) (okp := fun _ => True) ?hr ?hp (fun _ hk => hk) trivial (Below.refl _ _) (Nat.le_refl _) (by simp) ?_; (case hd => rfl); (case hg => rfl); (case hr => first | (go_simp; done) | (go_simp; rfl)); (case hp => exact (Reps.one (show Kd.M (Kd.int .i64) _ _ _ a2 [.int .i64 a2] from rfl) (Reps.none _ _)))
                 intro v171 w51 ho52 hb hg_ hnew_
                 clear hg_ hnew_
                 (first | rw [← Ny170.out] at ho52 | (simp only [Int.reduceToNat] at ho52; rw [← Ny170.out] at ho52))
                 have HO172 := zA (Kd.R_lower (Kd.R_new' (Kd.R_new' (Kd.R_newM (M := fun k_ => (P0_1_ k_ ∨ w.heap.size ≤ k_)) ho52 (by first | exact HK.out.1 | exact (show Kept w _ (fun k_ => P0_1_ k_) from by repeat (first | (with_reducible first | exact HK.out | apply Kept.alloc | apply Kept.drewN | apply Kept.drew | refine Kept.setCell ?_ (.inr GW149.out) _ | refine Kept.setCell ?_ (.inr GW150.out) _) | exact HK.out)).1) (fun k_ h_ => .inr h_)) (Kd.R_lt (uR HO_150001.out))) (Kd.R_lt (uR HO163.out))) (below_size (uH HB.out)))
                 replace HO_150001 := zA (Kd.R_elder' (uR HO_150001.out) (Kd.R_base ho52) hb)
                 replace HO163 := zA (Kd.R_elder' (uR HO163.out) (Kd.R_base ho52) hb)
                 replace BK149 := xB BK149 hb
                 replace BK150 := xB BK150 hb
                 replace HK := zA (Kept.below (S := (fun k_ => P0_1_ k_)) (by repeat (first | (with_reducible first | exact HK.out | apply Kept.alloc | apply Kept.drewN | apply Kept.drew | refine Kept.setCell ?_ (.inr GW149.out) _ | refine Kept.setCell ?_ (.inr GW150.out) _) | exact HK.out)) hb)
                 replace HB := xH HB hb
                 clear hb ho52
                 refine hK.out _ _ ⟨bcu BK149 0, bcu BK149 1, bcu BK149 2⟩ (fun hHeld => ?_)
                 clear hK K
                 refine no_ 73 ?_
                 exact norm_ (by first | (simp only [putAll, Act.put, ls, lz, ln]; done) | (simp only [putAll, Act.put, ls, lz, ln]; rfl)) (hJ6_14 (v162, v171) _ ⟨hHeld, (uR (Kd.R_mono HO163.out (fun _ hk => ⟨hk.1.1, ⟨hk.2, hk.1.2⟩⟩))), (uR (Kd.R_mono HO172.out (fun _ hk => ⟨hk.1.1.1, ⟨hk.2, hk.1.2⟩⟩))), (uR (Kd.R_mono HO_150001.out (fun _ hk => ⟨hk.1.1, ⟨hk.1.2, hk.2⟩⟩))), (uB BK149.out), (uB BK150.out), (by repeat (first | (with_reducible first | exact HK.out | apply Kept.alloc | apply Kept.drewN | apply Kept.drew | refine Kept.setCell ?_ (.inr GW149.out) _ | refine Kept.setCell ?_ (.inr GW150.out) _) | exact HK.out)), (uH HB.out)⟩)
              ·skip
               rintro v159 w49 ⟨hS_, h0_, h1_, h2_, h3_, h4_, h5_⟩
               have n0_ : Aside0 (Kd.R (Kd.int .i64) 2 w49 w0.heap.size (fun k_ => (P0_1_ k_ ∨ w.heap.size ≤ k_) ∧ ax k_ (.slice Ao5 l0_1.length co5)) v159 t158) := ⟨h0_⟩
               have n1_ : Aside0 (Kd.R (Kd.int .i64) 2 w49 w0.heap.size (fun k_ => (P0_1_ k_ ∨ w.heap.size ≤ k_) ∧ some k_ ≠ (v159 : Value).ownBlock) (.slice Ao5 l0_1.length co5) l0_1) := ⟨h1_⟩
               have n2_ : Aside0 (w49.heap[gb149]? = some (.cells #[.int .i64 a0_0, .slice Ao5 l0_1.length co5, .slice A0_2 l0_2.length c0_2] 51 (0, 0))) := ⟨h2_⟩
               have n3_ : Aside0 (w49.heap[gb150]? = some (.cells #[.int .i64 0, .slice none 0 0, .slice none 0 0] 51 (0, 0))) := ⟨h3_⟩
               have n4_ : Aside0 (Kept w w49 (fun k_ => P0_1_ k_)) := ⟨h4_⟩
               have n5_ : Aside0 (Below w0.heap.size w0 w49) := ⟨h5_⟩
               clear HO_150001 BK149 BK150 HK HB
               clear h0_ h1_ h2_ h3_ h4_ h5_
               have HO160 := n0_
               have HO_150001 := n1_
               have BK149 := n2_
               have BK150 := n3_
               have HK := n4_
               have HB := n5_
               clear n0_ n1_ n2_ n3_ n4_ n5_
               have hHeld : w49.cell? ⟨gb149, 0, none⟩ = some (.int .i64 a0_0) ∧ w49.cell? ⟨gb149, 1, none⟩ = some (.slice Ao5 l0_1.length co5) ∧ w49.cell? ⟨gb149, 2, none⟩ = some (.slice A0_2 l0_2.length c0_2) := hS_
               refine norm_ (a' := ?_) ?_ ?_
               rotate_left
               ·simp only [putAll, Act.put, ls, lz, ln]
                rfl
               refine two_ (i := 6) (j := 14) (Ni := some 65) (Nj := some 73) (bl 18 12159) (bl 18 28479) rfl rfl rfl rfl (two_of HT_.out (by kernel_rfl)) (by decide) (by decide) (fun K hK => ?_) (fun K hK => ?_)
               ·skip
                refine Kd.R_lit_step (Kd.int .i64) _ 2 ?hg (N := 65) ?hd (xs := ([a1] : List Int)) (inner := [.int .i64 a1]) (ok := fun _ => True) (okp := fun _ => True) ?hr ?hp (fun _ hk => hk) trivial (Below.refl _ _) (Nat.le_refl _) (by simp) ?_; (case hd => rfl); (case hg => rfl); (case hr => first | (go_simp; done) | (go_simp; rfl)); (case hp => exact (Reps.one (show Kd.M (Kd.int .i64) _ _ _ a1 [.int .i64 a1] from rfl) (Reps.none _ _)))
                intro v162 w50 ho51 hb hg_ hnew_
                clear hg_ hnew_
                (first | rw [← Ny161.out] at ho51 | (simp only [Int.reduceToNat] at ho51; rw [← Ny161.out] at ho51))
                have HO163 := zA (Kd.R_lower (Kd.R_new' (Kd.R_new' (Kd.R_newM (M := fun k_ => (P0_1_ k_ ∨ w.heap.size ≤ k_)) ho51 (by first | exact HK.out.1 | exact (show Kept w _ (fun k_ => P0_1_ k_) from by repeat (first | (with_reducible first | exact HK.out | apply Kept.alloc | apply Kept.drewN | apply Kept.drew | refine Kept.setCell ?_ (.inr GW149.out) _ | refine Kept.setCell ?_ (.inr GW150.out) _) | exact HK.out)).1) (fun k_ h_ => .inr h_)) (Kd.R_lt (uR HO_150001.out))) (Kd.R_lt (uR HO160.out))) (below_size (uH HB.out)))
                replace HO_150001 := zA (Kd.R_elder' (uR HO_150001.out) (Kd.R_base ho51) hb)
                replace HO160 := zA (Kd.R_elder' (uR HO160.out) (Kd.R_base ho51) hb)
                replace BK149 := xB BK149 hb
                replace BK150 := xB BK150 hb
                replace HK := zA (Kept.below (S := (fun k_ => P0_1_ k_)) (by repeat (first | (with_reducible first | exact HK.out | apply Kept.alloc | apply Kept.drewN | apply Kept.drew | refine Kept.setCell ?_ (.inr GW149.out) _ | refine Kept.setCell ?_ (.inr GW150.out) _) | exact HK.out)) hb)
                replace HB := xH HB hb
                clear hb ho51
                refine hK.out _ _ ⟨bcu BK149 0, bcu BK149 1, bcu BK149 2⟩ (fun hHeld => ?_)
                clear hK K
                refine no_ 65 ?_
                exact norm_ (by first | (simp only [putAll, Act.put, ls, lz, ln]; done) | (simp only [putAll, Act.put, ls, lz, ln]; rfl)) (hJ4_6 (v159, v162) _ ⟨hHeld, (uR (Kd.R_mono HO160.out (fun _ hk => ⟨hk.1.1, ⟨hk.2, hk.1.2⟩⟩))), (uR (Kd.R_mono HO163.out (fun _ hk => ⟨hk.1.1.1, ⟨hk.2, hk.1.2⟩⟩))), (uR (Kd.R_mono HO_150001.out (fun _ hk => ⟨hk.1.1, ⟨hk.1.2, hk.2⟩⟩))), (uB BK149.out), (uB BK150.out), (by repeat (first | (with_reducible first | exact HK.out | apply Kept.alloc | apply Kept.drewN | apply Kept.drew | refine Kept.setCell ?_ (.inr GW149.out) _ | refine Kept.setCell ?_ (.inr GW150.out) _) | exact HK.out)), (uH HB.out)⟩)
               ·skip
                refine Kd.R_lit_step (Kd.int .i64) _ 2 ?hg (N := 73) ?hd (xs := ([a2] : List Int)) (inner := [.int .i64 a2]) (ok := fun _ => True) (okp := fun _ => True) ?hr ?hp (fun _ hk => hk) trivial (Below.refl _ _) (Nat.le_refl _) (by simp) ?_; (case hd => rfl); (case hg => rfl); (case hr => first | (go_simp; done) | (go_simp; rfl)); (case hp => exact (Reps.one (show Kd.M (Kd.int .i64) _ _ _ a2 [.int .i64 a2] from rfl) (Reps.none _ _)))
                intro v171 w50 ho51 hb hg_ hnew_
                clear hg_ hnew_
                (first | rw [← Ny170.out] at ho51 | (simp only [Int.reduceToNat] at ho51; rw [← Ny170.out] at ho51))
                have HO172 := zA (Kd.R_lower (Kd.R_new' (Kd.R_new' (Kd.R_newM (M := fun k_ => (P0_1_ k_ ∨ w.heap.size ≤ k_)) ho51 (by first | exact HK.out.1 | exact (show Kept w _ (fun k_ => P0_1_ k_) from by repeat (first | (with_reducible first | exact HK.out | apply Kept.alloc | apply Kept.drewN | apply Kept.drew | refine Kept.setCell ?_ (.inr GW149.out) _ | refine Kept.setCell ?_ (.inr GW150.out) _) | exact HK.out)).1) (fun k_ h_ => .inr h_)) (Kd.R_lt (uR HO_150001.out))) (Kd.R_lt (uR HO160.out))) (below_size (uH HB.out)))
                replace HO_150001 := zA (Kd.R_elder' (uR HO_150001.out) (Kd.R_base ho51) hb)
                replace HO160 := zA (Kd.R_elder' (uR HO160.out) (Kd.R_base ho51) hb)
                replace BK149 := xB BK149 hb
                replace BK150 := xB BK150 hb
                replace HK := zA (Kept.below (S := (fun k_ => P0_1_ k_)) (by repeat (first | (with_reducible first | exact HK.out | apply Kept.alloc | apply Kept.drewN | apply Kept.drew | refine Kept.setCell ?_ (.inr GW149.out) _ | refine Kept.setCell ?_ (.inr GW150.out) _) | exact HK.out)) hb)
                replace HB := xH HB hb
                clear hb ho51
                refine hK.out _ _ ⟨bcu BK149 0, bcu BK149 1, bcu BK149 2⟩ (fun hHeld => ?_)
                clear hK K
                refine no_ 73 ?_
                exact norm_ (by first | (simp only [putAll, Act.put, ls, lz, ln]; done) | (simp only [putAll, Act.put, ls, lz, ln]; rfl)) (hJ4_14 (v159, v171) _ ⟨hHeld, (uR (Kd.R_mono HO160.out (fun _ hk => ⟨hk.1.1, ⟨hk.2, hk.1.2⟩⟩))), (uR (Kd.R_mono HO172.out (fun _ hk => ⟨hk.1.1.1, ⟨hk.2, hk.1.2⟩⟩))), (uR (Kd.R_mono HO_150001.out (fun _ hk => ⟨hk.1.1, ⟨hk.1.2, hk.2⟩⟩))), (uB BK149.out), (uB BK150.out), (by repeat (first | (with_reducible first | exact HK.out | apply Kept.alloc | apply Kept.drewN | apply Kept.drew | refine Kept.setCell ?_ (.inr GW149.out) _ | refine Kept.setCell ?_ (.inr GW150.out) _) | exact HK.out)), (uH HB.out)⟩)
             ·skip
              rintro ⟨v162, v171⟩ w52 ⟨hS_, h0_, h1_, h2_, h3_, h4_, h5_, h6_⟩
              have n0_ : Aside0 (Kd.R (Kd.int .i64) 2 w52 w0.heap.size (fun k_ => (P0_1_ k_ ∨ w.heap.size ≤ k_) ∧ some k_ ≠ (v171 : Value).ownBlock ∧ ax k_ (.slice Ao5 l0_1.length co5)) v162 y161) := ⟨h0_⟩
              have n1_ : Aside0 (Kd.R (Kd.int .i64) 2 w52 w0.heap.size (fun k_ => (P0_1_ k_ ∨ w.heap.size ≤ k_) ∧ some k_ ≠ (v162 : Value).ownBlock ∧ ax k_ (.slice Ao5 l0_1.length co5)) v171 y170) := ⟨h1_⟩
              have n2_ : Aside0 (Kd.R (Kd.int .i64) 2 w52 w0.heap.size (fun k_ => (P0_1_ k_ ∨ w.heap.size ≤ k_) ∧ some k_ ≠ (v162 : Value).ownBlock ∧ some k_ ≠ (v171 : Value).ownBlock) (.slice Ao5 l0_1.length co5) l0_1) := ⟨h2_⟩
              have n3_ : Aside0 (w52.heap[gb149]? = some (.cells #[.int .i64 a0_0, .slice Ao5 l0_1.length co5, .slice A0_2 l0_2.length c0_2] 51 (0, 0))) := ⟨h3_⟩
              have n4_ : Aside0 (w52.heap[gb150]? = some (.cells #[.int .i64 0, .slice none 0 0, .slice none 0 0] 51 (0, 0))) := ⟨h4_⟩
              have n5_ : Aside0 (Kept w w52 (fun k_ => P0_1_ k_)) := ⟨h5_⟩
              have n6_ : Aside0 (Below w0.heap.size w0 w52) := ⟨h6_⟩
              clear HO_150001 BK149 BK150 HK HB
              clear h0_ h1_ h2_ h3_ h4_ h5_ h6_
              have HO163 := n0_
              have HO172 := n1_
              have HO_150001 := n2_
              have BK149 := n3_
              have BK150 := n4_
              have HK := n5_
              have HB := n6_
              clear n0_ n1_ n2_ n3_ n4_ n5_ n6_
              have hHeld : w52.cell? ⟨gb149, 0, none⟩ = some (.int .i64 a0_0) ∧ w52.cell? ⟨gb149, 1, none⟩ = some (.slice Ao5 l0_1.length co5) ∧ w52.cell? ⟨gb149, 2, none⟩ = some (.slice A0_2 l0_2.length c0_2) := hS_
              refine norm_ (a' := ?_) ?_ ?_
              rotate_left
              ·simp only [putAll, Act.put, ls, lz, ln]
               rfl
              refine on_ 4 (some 63) (bl 18 28543) HT_ (fun K hK => ?_)
              refine gS Try.func41 #[.slice Ao5 lA.length co5] ?_
              with_reducible refine (spec_l01Own.calls _ _ lA t158 _ ?side1 ?side2 A41.out).mono ?_
              (case side1 => exact uC (takeC HLA.out HX1.out (Kd.R_reads' HO_150001.out).2.2))
              (case side2 => exact takeLe HLA.out (Kd.R_reads' HO_150001.out).2.1)
              rintro e w53 ⟨v159, rfl, ho0, hb⟩
              refine ⟨_, rfl, ?_⟩
              have HO160 := zA (Kd.R_lower (Kd.R_new' (Kd.R_new' (Kd.R_new' (Kd.R_newM (M := fun k_ => (P0_1_ k_ ∨ w.heap.size ≤ k_)) ho0 (by first | exact HK.out.1 | exact (show Kept w _ (fun k_ => P0_1_ k_) from by repeat (first | (with_reducible first | exact HK.out | apply Kept.alloc | apply Kept.drewN | apply Kept.drew | refine Kept.setCell ?_ (.inr GW149.out) _ | refine Kept.setCell ?_ (.inr GW150.out) _) | exact HK.out)).1) (fun k_ h_ => .inr h_)) (Kd.R_lt (uR HO_150001.out))) (Kd.R_lt (uR HO163.out))) (Kd.R_lt (uR HO172.out))) (below_size (uH HB.out)))
              replace HO_150001 := zA (Kd.R_elder' (uR HO_150001.out) (Kd.R_base ho0) hb)
              replace HO163 := zA (Kd.R_elder' (uR HO163.out) (Kd.R_base ho0) hb)
              replace HO172 := zA (Kd.R_elder' (uR HO172.out) (Kd.R_base ho0) hb)
              replace BK149 := xB BK149 hb
              replace BK150 := xB BK150 hb
              replace HK := zA (Kept.below (S := (fun k_ => P0_1_ k_)) (by repeat (first | (with_reducible first | exact HK.out | apply Kept.alloc | apply Kept.drewN | apply Kept.drew | refine Kept.setCell ?_ (.inr GW149.out) _ | refine Kept.setCell ?_ (.inr GW150.out) _) | exact HK.out)) hb)
              replace HB := xH HB hb
              (try clear hb); (try clear hb2); (try clear hk); (try clear hi); (try clear ho0)
              refine hK.out _ _ ⟨bcu BK149 0, bcu BK149 1, bcu BK149 2⟩ (fun hHeld => ?_)
              clear hK K
              refine no_ 63 ?_
              exact norm_ (by first | (simp only [putAll, Act.put, ls, lz, ln]; done) | (simp only [putAll, Act.put, ls, lz, ln]; rfl)) (hJ4_6_14 (v159, v162, v171) _ ⟨hHeld, (uR (Kd.R_mono HO160.out (fun _ hk => ⟨hk.1.1.1.1, ⟨hk.1.2, ⟨hk.2, hk.1.1.2⟩⟩⟩))), (uR (Kd.R_mono HO163.out (fun _ hk => ⟨hk.1.1, ⟨hk.2, ⟨hk.1.2.1, hk.1.2.2⟩⟩⟩))), (uR (Kd.R_mono HO172.out (fun _ hk => ⟨hk.1.1, ⟨hk.2, ⟨hk.1.2.1, hk.1.2.2⟩⟩⟩))), (uR (Kd.R_mono HO_150001.out (fun _ hk => ⟨hk.1.1, ⟨hk.2, ⟨hk.1.2.1, hk.1.2.2⟩⟩⟩))), (uB BK149.out), (uB BK150.out), (by repeat (first | (with_reducible first | exact HK.out | apply Kept.alloc | apply Kept.drewN | apply Kept.drew | refine Kept.setCell ?_ (.inr GW149.out) _ | refine Kept.setCell ?_ (.inr GW150.out) _) | exact HK.out)), (uH HB.out)⟩)
            ·skip
             rintro ⟨v159, v171⟩ w51 ⟨hS_, h0_, h1_, h2_, h3_, h4_, h5_, h6_⟩
             have n0_ : Aside0 (Kd.R (Kd.int .i64) 2 w51 w0.heap.size (fun k_ => (P0_1_ k_ ∨ w.heap.size ≤ k_) ∧ some k_ ≠ (v171 : Value).ownBlock ∧ ax k_ (.slice Ao5 l0_1.length co5)) v159 t158) := ⟨h0_⟩
             have n1_ : Aside0 (Kd.R (Kd.int .i64) 2 w51 w0.heap.size (fun k_ => (P0_1_ k_ ∨ w.heap.size ≤ k_) ∧ some k_ ≠ (v159 : Value).ownBlock ∧ ax k_ (.slice Ao5 l0_1.length co5)) v171 y170) := ⟨h1_⟩
             have n2_ : Aside0 (Kd.R (Kd.int .i64) 2 w51 w0.heap.size (fun k_ => (P0_1_ k_ ∨ w.heap.size ≤ k_) ∧ some k_ ≠ (v159 : Value).ownBlock ∧ some k_ ≠ (v171 : Value).ownBlock) (.slice Ao5 l0_1.length co5) l0_1) := ⟨h2_⟩
             have n3_ : Aside0 (w51.heap[gb149]? = some (.cells #[.int .i64 a0_0, .slice Ao5 l0_1.length co5, .slice A0_2 l0_2.length c0_2] 51 (0, 0))) := ⟨h3_⟩
             have n4_ : Aside0 (w51.heap[gb150]? = some (.cells #[.int .i64 0, .slice none 0 0, .slice none 0 0] 51 (0, 0))) := ⟨h4_⟩
             have n5_ : Aside0 (Kept w w51 (fun k_ => P0_1_ k_)) := ⟨h5_⟩
             have n6_ : Aside0 (Below w0.heap.size w0 w51) := ⟨h6_⟩
             clear HO_150001 BK149 BK150 HK HB
             clear h0_ h1_ h2_ h3_ h4_ h5_ h6_
             have HO160 := n0_
             have HO172 := n1_
             have HO_150001 := n2_
             have BK149 := n3_
             have BK150 := n4_
             have HK := n5_
             have HB := n6_
             clear n0_ n1_ n2_ n3_ n4_ n5_ n6_
             have hHeld : w51.cell? ⟨gb149, 0, none⟩ = some (.int .i64 a0_0) ∧ w51.cell? ⟨gb149, 1, none⟩ = some (.slice Ao5 l0_1.length co5) ∧ w51.cell? ⟨gb149, 2, none⟩ = some (.slice A0_2 l0_2.length c0_2) := hS_
             refine norm_ (a' := ?_) ?_ ?_
             rotate_left
             ·simp only [putAll, Act.put, ls, lz, ln]
              rfl
             refine on_ 6 (some 65) (bl 18 28543) HT_ (fun K hK => ?_)
             refine Kd.R_lit_step (Kd.int .i64) _ 2 ?hg (N := 65) ?hd (xs := ([a1] : List Int)) (inner := [.int .i64 a1]) (ok := fun _ => True) (okp := fun _ => True) ?hr ?hp (fun _ hk => hk) trivial (Below.refl _ _) (Nat.le_refl _) (by simp) ?_; (case hd => rfl); (case hg => rfl); (case hr => first | (go_simp; done) | (go_simp; rfl)); (case hp => exact (Reps.one (show Kd.M (Kd.int .i64) _ _ _ a1 [.int .i64 a1] from rfl) (Reps.none _ _)))
             intro v162 w52 ho53 hb hg_ hnew_
             clear hg_ hnew_
             (first | rw [← Ny161.out] at ho53 | (simp only [Int.reduceToNat] at ho53; rw [← Ny161.out] at ho53))
             have HO163 := zA (Kd.R_lower (Kd.R_new' (Kd.R_new' (Kd.R_new' (Kd.R_newM (M := fun k_ => (P0_1_ k_ ∨ w.heap.size ≤ k_)) ho53 (by first | exact HK.out.1 | exact (show Kept w _ (fun k_ => P0_1_ k_) from by repeat (first | (with_reducible first | exact HK.out | apply Kept.alloc | apply Kept.drewN | apply Kept.drew | refine Kept.setCell ?_ (.inr GW149.out) _ | refine Kept.setCell ?_ (.inr GW150.out) _) | exact HK.out)).1) (fun k_ h_ => .inr h_)) (Kd.R_lt (uR HO_150001.out))) (Kd.R_lt (uR HO160.out))) (Kd.R_lt (uR HO172.out))) (below_size (uH HB.out)))
             replace HO_150001 := zA (Kd.R_elder' (uR HO_150001.out) (Kd.R_base ho53) hb)
             replace HO160 := zA (Kd.R_elder' (uR HO160.out) (Kd.R_base ho53) hb)
             replace HO172 := zA (Kd.R_elder' (uR HO172.out) (Kd.R_base ho53) hb)
             replace BK149 := xB BK149 hb
             replace BK150 := xB BK150 hb
             replace HK := zA (Kept.below (S := (fun k_ => P0_1_ k_)) (by repeat (first | (with_reducible first | exact HK.out | apply Kept.alloc | apply Kept.drewN | apply Kept.drew | refine Kept.setCell ?_ (.inr GW149.out) _ | refine Kept.setCell ?_ (.inr GW150.out) _) | exact HK.out)) hb)
             replace HB := xH HB hb
             clear hb ho53
             refine hK.out _ _ ⟨bcu BK149 0, bcu BK149 1, bcu BK149 2⟩ (fun hHeld => ?_)
             clear hK K
             refine no_ 65 ?_
             exact norm_ (by first | (simp only [putAll, Act.put, ls, lz, ln]; done) | (simp only [putAll, Act.put, ls, lz, ln]; rfl)) (hJ4_6_14 (v159, v162, v171) _ ⟨hHeld, (uR (Kd.R_mono HO160.out (fun _ hk => ⟨hk.1.1, ⟨hk.2, ⟨hk.1.2.1, hk.1.2.2⟩⟩⟩))), (uR (Kd.R_mono HO163.out (fun _ hk => ⟨hk.1.1.1.1, ⟨hk.1.2, ⟨hk.2, hk.1.1.2⟩⟩⟩))), (uR (Kd.R_mono HO172.out (fun _ hk => ⟨hk.1.1, ⟨hk.1.2.1, ⟨hk.2, hk.1.2.2⟩⟩⟩))), (uR (Kd.R_mono HO_150001.out (fun _ hk => ⟨hk.1.1, ⟨hk.1.2.1, ⟨hk.2, hk.1.2.2⟩⟩⟩))), (uB BK149.out), (uB BK150.out), (by repeat (first | (with_reducible first | exact HK.out | apply Kept.alloc | apply Kept.drewN | apply Kept.drew | refine Kept.setCell ?_ (.inr GW149.out) _ | refine Kept.setCell ?_ (.inr GW150.out) _) | exact HK.out)), (uH HB.out)⟩)
           ·skip
            rintro ⟨v159, v162⟩ w51 ⟨hS_, h0_, h1_, h2_, h3_, h4_, h5_, h6_⟩
            have n0_ : Aside0 (Kd.R (Kd.int .i64) 2 w51 w0.heap.size (fun k_ => (P0_1_ k_ ∨ w.heap.size ≤ k_) ∧ some k_ ≠ (v162 : Value).ownBlock ∧ ax k_ (.slice Ao5 l0_1.length co5)) v159 t158) := ⟨h0_⟩
            have n1_ : Aside0 (Kd.R (Kd.int .i64) 2 w51 w0.heap.size (fun k_ => (P0_1_ k_ ∨ w.heap.size ≤ k_) ∧ some k_ ≠ (v159 : Value).ownBlock ∧ ax k_ (.slice Ao5 l0_1.length co5)) v162 y161) := ⟨h1_⟩
            have n2_ : Aside0 (Kd.R (Kd.int .i64) 2 w51 w0.heap.size (fun k_ => (P0_1_ k_ ∨ w.heap.size ≤ k_) ∧ some k_ ≠ (v159 : Value).ownBlock ∧ some k_ ≠ (v162 : Value).ownBlock) (.slice Ao5 l0_1.length co5) l0_1) := ⟨h2_⟩
            have n3_ : Aside0 (w51.heap[gb149]? = some (.cells #[.int .i64 a0_0, .slice Ao5 l0_1.length co5, .slice A0_2 l0_2.length c0_2] 51 (0, 0))) := ⟨h3_⟩
            have n4_ : Aside0 (w51.heap[gb150]? = some (.cells #[.int .i64 0, .slice none 0 0, .slice none 0 0] 51 (0, 0))) := ⟨h4_⟩
            have n5_ : Aside0 (Kept w w51 (fun k_ => P0_1_ k_)) := ⟨h5_⟩
            have n6_ : Aside0 (Below w0.heap.size w0 w51) := ⟨h6_⟩
            clear HO_150001 BK149 BK150 HK HB
            clear h0_ h1_ h2_ h3_ h4_ h5_ h6_
            have HO160 := n0_
            have HO163 := n1_
            have HO_150001 := n2_
            have BK149 := n3_
            have BK150 := n4_
            have HK := n5_
            have HB := n6_
            clear n0_ n1_ n2_ n3_ n4_ n5_ n6_
            have hHeld : w51.cell? ⟨gb149, 0, none⟩ = some (.int .i64 a0_0) ∧ w51.cell? ⟨gb149, 1, none⟩ = some (.slice Ao5 l0_1.length co5) ∧ w51.cell? ⟨gb149, 2, none⟩ = some (.slice A0_2 l0_2.length c0_2) := hS_
            obtain ⟨Ao53, co53, eo53⟩ := Kd.R_slice HO163.out
            (first | subst eo53 | (injection eo53 with f1_ f2_ f3_; have f4_ := f1_.symm; have f5_ := f3_.symm; clear f1_ f2_ f3_; subst f4_; subst f5_))
            refine norm_ (a' := ?_) ?_ ?_
            rotate_left
            ·simp only [putAll, Act.put, ls, lz, ln]
             rfl
            refine two_ (i := 7) (j := 14) (Ni := some 66) (Nj := some 73) (bl 18 12287) (bl 18 28543) rfl rfl rfl rfl (two_of HT_.out (by kernel_rfl)) (by decide) (by decide) (fun K hK => ?_) (fun K hK => ?_)
            ·skip
             refine Kd.R_append_rows_step (Kd.int .i64) (w0 := w0) w0.heap.size (by rfl) (.tmp 63) (.tmp 65) 22 2 (.int .i64 0) 8 rfl Try.underlying22 info2 rfl (by decide) (by omega) v159 t158 y161 _ _ _ (fun k_ => (P0_1_ k_ ∨ w.heap.size ≤ k_) ∧ ax k_ (.slice Ao5 l0_1.length co5) ∧ ax k_ (.slice Ao53 y161.length co53)) (fun _ => False) rfl rfl ?aO ?aR (fun _ _ h => h) (fun _ h => h.elim) ?aF ?aB ?aS ?aL ?_
             (case aR => exact uC ((Kd.R_reads' HO163.out).2.2))
             (case aB => exact (uH HB.out))
             (case aF => exact (fun k_ hk => ⟨(.inr (Nat.le_trans (by first | exact HK.out.1 | exact (show Kept w _ (fun k_ => P0_1_ k_) from by repeat (first | (with_reducible first | exact HK.out | apply Kept.alloc | apply Kept.drewN | apply Kept.drew | refine Kept.setCell ?_ (.inr GW149.out) _ | refine Kept.setCell ?_ (.inr GW150.out) _) | exact HK.out)).1) hk)), Kd.fresh' (Kd.R_lt (uR HO_150001.out)) k_ hk, Kd.fresh' (Kd.R_lt (uR HO163.out)) k_ hk⟩))
             (case aO => exact (uR (Kd.R_mono HO160.out (fun _ hk => ⟨hk.1, ⟨hk.2.2, hk.2.1⟩⟩))))
             (case aS => exact (below_size (uH HB.out)))
             (case aL => have := LMc42.out; omega)
             intro v165 w52 ho hb hg hat
             rw [← Ny164.out] at ho
             replace HO_150001 := zA (Kd.R_after (ok := (fun k_ => (P0_1_ k_ ∨ w.heap.size ≤ k_) ∧ ax k_ (.slice Ao53 y161.length co53))) (uR (Kd.R_mono HO_150001.out (fun _ hk => ⟨⟨hk.1, hk.2.2⟩, hk.2.1⟩))) hg hat)
             replace BK149 := zA (blk_grown (g := gb149) (o := .cells #[.int .i64 a0_0, .slice Ao5 l0_1.length co5, .slice A0_2 l0_2.length c0_2] 51 (0, 0)) (uB BK149.out) hg (Kd.R_ne HO160.out BK149.out (by decide)))
             replace BK150 := zA (blk_grown (g := gb150) (o := .cells #[.int .i64 0, .slice none 0 0, .slice none 0 0] 51 (0, 0)) (uB BK150.out) hg (Kd.R_ne HO160.out BK150.out (by decide)))
             replace HO163 := zA (Kd.R_after (ok := (fun k_ => (P0_1_ k_ ∨ w.heap.size ≤ k_) ∧ ax k_ (.slice Ao5 l0_1.length co5))) (uR (Kd.R_mono HO163.out (fun _ hk => ⟨⟨hk.1, hk.2.2⟩, hk.2.1⟩))) hg hat)
             replace HB := zA (hb)
             replace HK := zA (Kept.of_grown (S := (fun k_ => P0_1_ k_)) hg (by repeat (first | (with_reducible first | exact HK.out | apply Kept.alloc | apply Kept.drewN | apply Kept.drew | refine Kept.setCell ?_ (.inr GW149.out) _ | refine Kept.setCell ?_ (.inr GW150.out) _) | exact HK.out)) (fun k_ e_ => (HO160.out.1 k_ e_).1))
             have HO166 := zA (ho)
             clear HO160
             clear ho hb hg hat
             refine hK.out _ _ ⟨bcu BK149 0, bcu BK149 1, bcu BK149 2⟩ (fun hHeld => ?_)
             clear hK K
             refine no_ 66 ?_
             exact norm_ (by first | (simp only [putAll, Act.put, ls, lz, ln]; done) | (simp only [putAll, Act.put, ls, lz, ln]; rfl)) (hJ4_6_7 (v159, .slice Ao53 y161.length co53, v165) _ ⟨hHeld, (uR (Kd.R_mono HO163.out (fun _ hk => ⟨hk.1.1, ⟨hk.2, hk.1.2⟩⟩))), (uR (Kd.R_mono HO166.out (fun _ hk => ⟨hk.1, ⟨hk.2.2, hk.2.1⟩⟩))), (uR (Kd.R_mono HO_150001.out (fun _ hk => ⟨hk.1.1, ⟨hk.1.2, hk.2⟩⟩))), (uB BK149.out), (uB BK150.out), (by repeat (first | (with_reducible first | exact HK.out | apply Kept.alloc | apply Kept.drewN | apply Kept.drew | refine Kept.setCell ?_ (.inr GW149.out) _ | refine Kept.setCell ?_ (.inr GW150.out) _) | exact HK.out)), (uH HB.out)⟩)
            ·skip
             refine Kd.R_lit_step (Kd.int .i64) _ 2 ?hg (N := 73) ?hd (xs := ([a2] : List Int)) (inner := [.int .i64 a2]) (ok := fun _ => True) (okp := fun _ => True) ?hr ?hp (fun _ hk => hk) trivial (Below.refl _ _) (Nat.le_refl _) (by simp) ?_; (case hd => rfl); (case hg => rfl); (case hr => first | (go_simp; done) | (go_simp; rfl)); (case hp => exact (Reps.one (show Kd.M (Kd.int .i64) _ _ _ a2 [.int .i64 a2] from rfl) (Reps.none _ _)))
             intro v171 w52 ho53 hb hg_ hnew_
             clear hg_ hnew_
             (first | rw [← Ny170.out] at ho53 | (simp only [Int.reduceToNat] at ho53; rw [← Ny170.out] at ho53))
             have HO172 := zA (Kd.R_lower (Kd.R_new' (Kd.R_new' (Kd.R_new' (Kd.R_newM (M := fun k_ => (P0_1_ k_ ∨ w.heap.size ≤ k_)) ho53 (by first | exact HK.out.1 | exact (show Kept w _ (fun k_ => P0_1_ k_) from by repeat (first | (with_reducible first | exact HK.out | apply Kept.alloc | apply Kept.drewN | apply Kept.drew | refine Kept.setCell ?_ (.inr GW149.out) _ | refine Kept.setCell ?_ (.inr GW150.out) _) | exact HK.out)).1) (fun k_ h_ => .inr h_)) (Kd.R_lt (uR HO_150001.out))) (Kd.R_lt (uR HO160.out))) (Kd.R_lt (uR HO163.out))) (below_size (uH HB.out)))
             replace HO_150001 := zA (Kd.R_elder' (uR HO_150001.out) (Kd.R_base ho53) hb)
             replace HO160 := zA (Kd.R_elder' (uR HO160.out) (Kd.R_base ho53) hb)
             replace HO163 := zA (Kd.R_elder' (uR HO163.out) (Kd.R_base ho53) hb)
             replace BK149 := xB BK149 hb
             replace BK150 := xB BK150 hb
             replace HK := zA (Kept.below (S := (fun k_ => P0_1_ k_)) (by repeat (first | (with_reducible first | exact HK.out | apply Kept.alloc | apply Kept.drewN | apply Kept.drew | refine Kept.setCell ?_ (.inr GW149.out) _ | refine Kept.setCell ?_ (.inr GW150.out) _) | exact HK.out)) hb)
             replace HB := xH HB hb
             clear hb ho53
             refine hK.out _ _ ⟨bcu BK149 0, bcu BK149 1, bcu BK149 2⟩ (fun hHeld => ?_)
             clear hK K
             refine no_ 73 ?_
             exact norm_ (by first | (simp only [putAll, Act.put, ls, lz, ln]; done) | (simp only [putAll, Act.put, ls, lz, ln]; rfl)) (hJ4_6_14 (v159, (.slice Ao53 y161.length co53), v171) _ ⟨hHeld, (uR (Kd.R_mono HO160.out (fun _ hk => ⟨hk.1.1, ⟨hk.1.2.1, ⟨hk.2, hk.1.2.2⟩⟩⟩))), (uR (Kd.R_mono HO163.out (fun _ hk => ⟨hk.1.1, ⟨hk.1.2.1, ⟨hk.2, hk.1.2.2⟩⟩⟩))), (uR (Kd.R_mono HO172.out (fun _ hk => ⟨hk.1.1.1.1, ⟨hk.1.2, ⟨hk.2, hk.1.1.2⟩⟩⟩))), (uR (Kd.R_mono HO_150001.out (fun _ hk => ⟨hk.1.1, ⟨hk.1.2.1, ⟨hk.1.2.2, hk.2⟩⟩⟩))), (uB BK149.out), (uB BK150.out), (by repeat (first | (with_reducible first | exact HK.out | apply Kept.alloc | apply Kept.drewN | apply Kept.drew | refine Kept.setCell ?_ (.inr GW149.out) _ | refine Kept.setCell ?_ (.inr GW150.out) _) | exact HK.out)), (uH HB.out)⟩)
          ·skip
           rintro ⟨v159, v162, v171⟩ w53 ⟨hS_, h0_, h1_, h2_, h3_, h4_, h5_, h6_, h7_⟩
           have n0_ : Aside0 (Kd.R (Kd.int .i64) 2 w53 w0.heap.size (fun k_ => (P0_1_ k_ ∨ w.heap.size ≤ k_) ∧ some k_ ≠ (v162 : Value).ownBlock ∧ some k_ ≠ (v171 : Value).ownBlock ∧ ax k_ (.slice Ao5 l0_1.length co5)) v159 t158) := ⟨h0_⟩
           have n1_ : Aside0 (Kd.R (Kd.int .i64) 2 w53 w0.heap.size (fun k_ => (P0_1_ k_ ∨ w.heap.size ≤ k_) ∧ some k_ ≠ (v159 : Value).ownBlock ∧ some k_ ≠ (v171 : Value).ownBlock ∧ ax k_ (.slice Ao5 l0_1.length co5)) v162 y161) := ⟨h1_⟩
           have n2_ : Aside0 (Kd.R (Kd.int .i64) 2 w53 w0.heap.size (fun k_ => (P0_1_ k_ ∨ w.heap.size ≤ k_) ∧ some k_ ≠ (v159 : Value).ownBlock ∧ some k_ ≠ (v162 : Value).ownBlock ∧ ax k_ (.slice Ao5 l0_1.length co5)) v171 y170) := ⟨h2_⟩
           have n3_ : Aside0 (Kd.R (Kd.int .i64) 2 w53 w0.heap.size (fun k_ => (P0_1_ k_ ∨ w.heap.size ≤ k_) ∧ some k_ ≠ (v159 : Value).ownBlock ∧ some k_ ≠ (v162 : Value).ownBlock ∧ some k_ ≠ (v171 : Value).ownBlock) (.slice Ao5 l0_1.length co5) l0_1) := ⟨h3_⟩
           have n4_ : Aside0 (w53.heap[gb149]? = some (.cells #[.int .i64 a0_0, .slice Ao5 l0_1.length co5, .slice A0_2 l0_2.length c0_2] 51 (0, 0))) := ⟨h4_⟩
           have n5_ : Aside0 (w53.heap[gb150]? = some (.cells #[.int .i64 0, .slice none 0 0, .slice none 0 0] 51 (0, 0))) := ⟨h5_⟩
           have n6_ : Aside0 (Kept w w53 (fun k_ => P0_1_ k_)) := ⟨h6_⟩
           have n7_ : Aside0 (Below w0.heap.size w0 w53) := ⟨h7_⟩
           clear HO_150001 BK149 BK150 HK HB
           clear h0_ h1_ h2_ h3_ h4_ h5_ h6_ h7_
           have HO160 := n0_
           have HO163 := n1_
           have HO172 := n2_
           have HO_150001 := n3_
           have BK149 := n4_
           have BK150 := n5_
           have HK := n6_
           have HB := n7_
           clear n0_ n1_ n2_ n3_ n4_ n5_ n6_ n7_
           have hHeld : w53.cell? ⟨gb149, 0, none⟩ = some (.int .i64 a0_0) ∧ w53.cell? ⟨gb149, 1, none⟩ = some (.slice Ao5 l0_1.length co5) ∧ w53.cell? ⟨gb149, 2, none⟩ = some (.slice A0_2 l0_2.length c0_2) := hS_
           obtain ⟨Ao55, co55, eo55⟩ := Kd.R_slice HO163.out
           (first | subst eo55 | (injection eo55 with f1_ f2_ f3_; have f4_ := f1_.symm; have f5_ := f3_.symm; clear f1_ f2_ f3_; subst f4_; subst f5_))
           refine norm_ (a' := ?_) ?_ ?_
           rotate_left
           ·simp only [putAll, Act.put, ls, lz, ln]
            rfl
           refine on_ 7 (some 66) (bl 18 28671) HT_ (fun K hK => ?_)
           refine Kd.R_append_rows_step (Kd.int .i64) (w0 := w0) w0.heap.size (by rfl) (.tmp 63) (.tmp 65) 22 2 (.int .i64 0) 8 rfl Try.underlying22 info2 rfl (by decide) (by omega) v159 t158 y161 _ _ _ (fun k_ => (P0_1_ k_ ∨ w.heap.size ≤ k_) ∧ ax k_ (.slice Ao5 l0_1.length co5) ∧ ax k_ (.slice Ao55 y161.length co55) ∧ some k_ ≠ (v171 : Value).ownBlock) (fun _ => False) rfl rfl ?aO ?aR (fun _ _ h => h) (fun _ h => h.elim) ?aF ?aB ?aS ?aL ?_
           (case aR => exact uC ((Kd.R_reads' HO163.out).2.2))
           (case aB => exact (uH HB.out))
           (case aF => exact (fun k_ hk => ⟨(.inr (Nat.le_trans (by first | exact HK.out.1 | exact (show Kept w _ (fun k_ => P0_1_ k_) from by repeat (first | (with_reducible first | exact HK.out | apply Kept.alloc | apply Kept.drewN | apply Kept.drew | refine Kept.setCell ?_ (.inr GW149.out) _ | refine Kept.setCell ?_ (.inr GW150.out) _) | exact HK.out)).1) hk)), Kd.fresh' (Kd.R_lt (uR HO_150001.out)) k_ hk, Kd.fresh' (Kd.R_lt (uR HO163.out)) k_ hk, Kd.fresh' (Kd.R_lt (uR HO172.out)) k_ hk⟩))
           (case aO => exact (uR (Kd.R_mono HO160.out (fun _ hk => ⟨hk.1, ⟨hk.2.2.2, ⟨hk.2.1, hk.2.2.1⟩⟩⟩))))
           (case aS => exact (below_size (uH HB.out)))
           (case aL => have := LMc42.out; omega)
           intro v165 w54 ho hb hg hat
           rw [← Ny164.out] at ho
           replace HO_150001 := zA (Kd.R_after (ok := (fun k_ => (P0_1_ k_ ∨ w.heap.size ≤ k_) ∧ ax k_ (.slice Ao55 y161.length co55) ∧ some k_ ≠ (v171 : Value).ownBlock)) (uR (Kd.R_mono HO_150001.out (fun _ hk => ⟨⟨hk.1, ⟨hk.2.2.1, hk.2.2.2⟩⟩, hk.2.1⟩))) hg hat)
           replace BK149 := zA (blk_grown (g := gb149) (o := .cells #[.int .i64 a0_0, .slice Ao5 l0_1.length co5, .slice A0_2 l0_2.length c0_2] 51 (0, 0)) (uB BK149.out) hg (Kd.R_ne HO160.out BK149.out (by decide)))
           replace BK150 := zA (blk_grown (g := gb150) (o := .cells #[.int .i64 0, .slice none 0 0, .slice none 0 0] 51 (0, 0)) (uB BK150.out) hg (Kd.R_ne HO160.out BK150.out (by decide)))
           replace HO163 := zA (Kd.R_after (ok := (fun k_ => (P0_1_ k_ ∨ w.heap.size ≤ k_) ∧ ax k_ (.slice Ao5 l0_1.length co5) ∧ some k_ ≠ (v171 : Value).ownBlock)) (uR (Kd.R_mono HO163.out (fun _ hk => ⟨⟨hk.1, ⟨hk.2.2.2, hk.2.2.1⟩⟩, hk.2.1⟩))) hg hat)
           replace HO172 := zA (Kd.R_after (ok := (fun k_ => (P0_1_ k_ ∨ w.heap.size ≤ k_) ∧ ax k_ (.slice Ao5 l0_1.length co5) ∧ ax k_ (.slice Ao55 y161.length co55))) (uR (Kd.R_mono HO172.out (fun _ hk => ⟨⟨hk.1, ⟨hk.2.2.2, hk.2.2.1⟩⟩, hk.2.1⟩))) hg hat)
           replace HB := zA (hb)
           replace HK := zA (Kept.of_grown (S := (fun k_ => P0_1_ k_)) hg (by repeat (first | (with_reducible first | exact HK.out | apply Kept.alloc | apply Kept.drewN | apply Kept.drew | refine Kept.setCell ?_ (.inr GW149.out) _ | refine Kept.setCell ?_ (.inr GW150.out) _) | exact HK.out)) (fun k_ e_ => (HO160.out.1 k_ e_).1))
           have HO166 := zA (ho)
           clear HO160
           clear ho hb hg hat
           refine hK.out _ _ ⟨bcu BK149 0, bcu BK149 1, bcu BK149 2⟩ (fun hHeld => ?_)
           clear hK K
           refine no_ 66 ?_
           exact norm_ (by first | (simp only [putAll, Act.put, ls, lz, ln]; done) | (simp only [putAll, Act.put, ls, lz, ln]; rfl)) (hJ4_6_7_14 (v159, .slice Ao55 y161.length co55, v165, v171) _ ⟨hHeld, (uR (Kd.R_mono HO163.out (fun _ hk => ⟨hk.1.1, ⟨hk.2, ⟨hk.1.2.2, hk.1.2.1⟩⟩⟩))), (uR (Kd.R_mono HO166.out (fun _ hk => ⟨hk.1, ⟨hk.2.2.1, ⟨hk.2.2.2, hk.2.1⟩⟩⟩))), (uR (Kd.R_mono HO172.out (fun _ hk => ⟨hk.1.1, ⟨hk.1.2.2, ⟨hk.2, hk.1.2.1⟩⟩⟩))), (uR (Kd.R_mono HO_150001.out (fun _ hk => ⟨hk.1.1, ⟨hk.1.2.1, ⟨hk.2, hk.1.2.2⟩⟩⟩))), (uB BK149.out), (uB BK150.out), (by repeat (first | (with_reducible first | exact HK.out | apply Kept.alloc | apply Kept.drewN | apply Kept.drew | refine Kept.setCell ?_ (.inr GW149.out) _ | refine Kept.setCell ?_ (.inr GW150.out) _) | exact HK.out)), (uH HB.out)⟩)
         ·skip
          rintro ⟨v159, v162, v165⟩ w53 ⟨hS_, h0_, h1_, h2_, h3_, h4_, h5_, h6_⟩
          have n0_ : Aside0 (Kd.R (Kd.int .i64) 2 w53 w0.heap.size (fun k_ => (P0_1_ k_ ∨ w.heap.size ≤ k_) ∧ some k_ ≠ (v165 : Value).ownBlock ∧ ax k_ (.slice Ao5 l0_1.length co5)) v162 y161) := ⟨h0_⟩
          have n1_ : Aside0 (Kd.R (Kd.int .i64) 2 w53 w0.heap.size (fun k_ => (P0_1_ k_ ∨ w.heap.size ≤ k_) ∧ some k_ ≠ (v162 : Value).ownBlock ∧ ax k_ (.slice Ao5 l0_1.length co5)) v165 y164) := ⟨h1_⟩
          have n2_ : Aside0 (Kd.R (Kd.int .i64) 2 w53 w0.heap.size (fun k_ => (P0_1_ k_ ∨ w.heap.size ≤ k_) ∧ some k_ ≠ (v162 : Value).ownBlock ∧ some k_ ≠ (v165 : Value).ownBlock) (.slice Ao5 l0_1.length co5) l0_1) := ⟨h2_⟩
          have n3_ : Aside0 (w53.heap[gb149]? = some (.cells #[.int .i64 a0_0, .slice Ao5 l0_1.length co5, .slice A0_2 l0_2.length c0_2] 51 (0, 0))) := ⟨h3_⟩
          have n4_ : Aside0 (w53.heap[gb150]? = some (.cells #[.int .i64 0, .slice none 0 0, .slice none 0 0] 51 (0, 0))) := ⟨h4_⟩
          have n5_ : Aside0 (Kept w w53 (fun k_ => P0_1_ k_)) := ⟨h5_⟩
          have n6_ : Aside0 (Below w0.heap.size w0 w53) := ⟨h6_⟩
          clear HO_150001 BK149 BK150 HK HB
          clear h0_ h1_ h2_ h3_ h4_ h5_ h6_
          have HO163 := n0_
          have HO166 := n1_
          have HO_150001 := n2_
          have BK149 := n3_
          have BK150 := n4_
          have HK := n5_
          have HB := n6_
          clear n0_ n1_ n2_ n3_ n4_ n5_ n6_
          have hHeld : w53.cell? ⟨gb149, 0, none⟩ = some (.int .i64 a0_0) ∧ w53.cell? ⟨gb149, 1, none⟩ = some (.slice Ao5 l0_1.length co5) ∧ w53.cell? ⟨gb149, 2, none⟩ = some (.slice A0_2 l0_2.length c0_2) := hS_
          refine norm_ (a' := ?_) ?_ ?_
          rotate_left
          ·simp only [putAll, Act.put, ls, lz, ln]
           rfl
          refine two_ (i := 12) (j := 14) (Ni := some 71) (Nj := some 73) (bl 18 16383) (bl 18 28671) rfl rfl rfl rfl (two_of HT_.out (by kernel_rfl)) (by decide) (by decide) (fun K hK => ?_) (fun K hK => ?_)
          ·skip
           refine gS Try.func41 #[.slice A0_2 lB.length c0_2] ?_
           with_reducible refine (spec_l01Own.calls _ _ lB t167 _ ?side1 ?side2 A43.out).mono ?_
           (case side1 => exact takeC HLB.out HX2.out (Kd.C_kept_now HR0_2.out (by repeat (first | (with_reducible first | exact HK.out | apply Kept.alloc | apply Kept.drewN | apply Kept.drew | refine Kept.setCell ?_ (.inr GW149.out) _ | refine Kept.setCell ?_ (.inr GW150.out) _) | exact HK.out))))
           (case side2 => exact takeLe HLB.out HC0_2.out)
           rintro e w54 ⟨v168, rfl, ho0, hb⟩
           refine ⟨_, rfl, ?_⟩
           have HO169 := zA (Kd.R_lower (Kd.R_new' (Kd.R_new' (Kd.R_new' (Kd.R_newM (M := fun k_ => (P0_1_ k_ ∨ w.heap.size ≤ k_)) ho0 (by first | exact HK.out.1 | exact (show Kept w _ (fun k_ => P0_1_ k_) from by repeat (first | (with_reducible first | exact HK.out | apply Kept.alloc | apply Kept.drewN | apply Kept.drew | refine Kept.setCell ?_ (.inr GW149.out) _ | refine Kept.setCell ?_ (.inr GW150.out) _) | exact HK.out)).1) (fun k_ h_ => .inr h_)) (Kd.R_lt (uR HO_150001.out))) (Kd.R_lt (uR HO163.out))) (Kd.R_lt (uR HO166.out))) (below_size (uH HB.out)))
           replace HO_150001 := zA (Kd.R_elder' (uR HO_150001.out) (Kd.R_base ho0) hb)
           replace HO163 := zA (Kd.R_elder' (uR HO163.out) (Kd.R_base ho0) hb)
           replace HO166 := zA (Kd.R_elder' (uR HO166.out) (Kd.R_base ho0) hb)
           replace BK149 := xB BK149 hb
           replace BK150 := xB BK150 hb
           replace HK := zA (Kept.below (S := (fun k_ => P0_1_ k_)) (by repeat (first | (with_reducible first | exact HK.out | apply Kept.alloc | apply Kept.drewN | apply Kept.drew | refine Kept.setCell ?_ (.inr GW149.out) _ | refine Kept.setCell ?_ (.inr GW150.out) _) | exact HK.out)) hb)
           replace HB := xH HB hb
           (try clear hb); (try clear hb2); (try clear hk); (try clear hi); (try clear ho0)
           refine hK.out _ _ ⟨bcu BK149 0, bcu BK149 1, bcu BK149 2⟩ (fun hHeld => ?_)
           clear hK K
           refine no_ 71 ?_
           exact norm_ (by first | (simp only [putAll, Act.put, ls, lz, ln]; done) | (simp only [putAll, Act.put, ls, lz, ln]; rfl)) (hJ4_6_7_12 (v159, v162, v165, v168) _ ⟨hHeld, (uR (Kd.R_mono HO163.out (fun _ hk => ⟨hk.1.1, ⟨hk.1.2.1, ⟨hk.2, hk.1.2.2⟩⟩⟩))), (uR (Kd.R_mono HO166.out (fun _ hk => ⟨hk.1.1, ⟨hk.1.2.1, ⟨hk.2, hk.1.2.2⟩⟩⟩))), (uR (Kd.R_mono HO169.out (fun _ hk => ⟨hk.1.1.1.1, ⟨hk.1.2, ⟨hk.2, hk.1.1.2⟩⟩⟩))), (uR (Kd.R_mono HO_150001.out (fun _ hk => ⟨hk.1.1, ⟨hk.1.2.1, ⟨hk.1.2.2, hk.2⟩⟩⟩))), (uB BK149.out), (uB BK150.out), (by repeat (first | (with_reducible first | exact HK.out | apply Kept.alloc | apply Kept.drewN | apply Kept.drew | refine Kept.setCell ?_ (.inr GW149.out) _ | refine Kept.setCell ?_ (.inr GW150.out) _) | exact HK.out)), (uH HB.out)⟩)
          ·skip
           refine Kd.R_lit_step (Kd.int .i64) _ 2 ?hg (N := 73) ?hd (xs := ([a2] : List Int)) (inner := [.int .i64 a2]) (ok := fun _ => True) (okp := fun _ => True) ?hr ?hp (fun _ hk => hk) trivial (Below.refl _ _) (Nat.le_refl _) (by simp) ?_; (case hd => rfl); (case hg => rfl); (case hr => first | (go_simp; done) | (go_simp; rfl)); (case hp => exact (Reps.one (show Kd.M (Kd.int .i64) _ _ _ a2 [.int .i64 a2] from rfl) (Reps.none _ _)))
           intro v171 w54 ho55 hb hg_ hnew_
           clear hg_ hnew_
           (first | rw [← Ny170.out] at ho55 | (simp only [Int.reduceToNat] at ho55; rw [← Ny170.out] at ho55))
           have HO172 := zA (Kd.R_lower (Kd.R_new' (Kd.R_new' (Kd.R_new' (Kd.R_newM (M := fun k_ => (P0_1_ k_ ∨ w.heap.size ≤ k_)) ho55 (by first | exact HK.out.1 | exact (show Kept w _ (fun k_ => P0_1_ k_) from by repeat (first | (with_reducible first | exact HK.out | apply Kept.alloc | apply Kept.drewN | apply Kept.drew | refine Kept.setCell ?_ (.inr GW149.out) _ | refine Kept.setCell ?_ (.inr GW150.out) _) | exact HK.out)).1) (fun k_ h_ => .inr h_)) (Kd.R_lt (uR HO_150001.out))) (Kd.R_lt (uR HO163.out))) (Kd.R_lt (uR HO166.out))) (below_size (uH HB.out)))
           replace HO_150001 := zA (Kd.R_elder' (uR HO_150001.out) (Kd.R_base ho55) hb)
           replace HO163 := zA (Kd.R_elder' (uR HO163.out) (Kd.R_base ho55) hb)
           replace HO166 := zA (Kd.R_elder' (uR HO166.out) (Kd.R_base ho55) hb)
           replace BK149 := xB BK149 hb
           replace BK150 := xB BK150 hb
           replace HK := zA (Kept.below (S := (fun k_ => P0_1_ k_)) (by repeat (first | (with_reducible first | exact HK.out | apply Kept.alloc | apply Kept.drewN | apply Kept.drew | refine Kept.setCell ?_ (.inr GW149.out) _ | refine Kept.setCell ?_ (.inr GW150.out) _) | exact HK.out)) hb)
           replace HB := xH HB hb
           clear hb ho55
           refine hK.out _ _ ⟨bcu BK149 0, bcu BK149 1, bcu BK149 2⟩ (fun hHeld => ?_)
           clear hK K
           refine no_ 73 ?_
           exact norm_ (by first | (simp only [putAll, Act.put, ls, lz, ln]; done) | (simp only [putAll, Act.put, ls, lz, ln]; rfl)) (hJ4_6_7_14 (v159, v162, v165, v171) _ ⟨hHeld, (uR (Kd.R_mono HO163.out (fun _ hk => ⟨hk.1.1, ⟨hk.1.2.1, ⟨hk.2, hk.1.2.2⟩⟩⟩))), (uR (Kd.R_mono HO166.out (fun _ hk => ⟨hk.1.1, ⟨hk.1.2.1, ⟨hk.2, hk.1.2.2⟩⟩⟩))), (uR (Kd.R_mono HO172.out (fun _ hk => ⟨hk.1.1.1.1, ⟨hk.1.2, ⟨hk.2, hk.1.1.2⟩⟩⟩))), (uR (Kd.R_mono HO_150001.out (fun _ hk => ⟨hk.1.1, ⟨hk.1.2.1, ⟨hk.1.2.2, hk.2⟩⟩⟩))), (uB BK149.out), (uB BK150.out), (by repeat (first | (with_reducible first | exact HK.out | apply Kept.alloc | apply Kept.drewN | apply Kept.drew | refine Kept.setCell ?_ (.inr GW149.out) _ | refine Kept.setCell ?_ (.inr GW150.out) _) | exact HK.out)), (uH HB.out)⟩)
        ·skip
         rintro ⟨v159, v162, v165, v171⟩ w55 ⟨hS_, h0_, h1_, h2_, h3_, h4_, h5_, h6_, h7_⟩
         have n0_ : Aside0 (Kd.R (Kd.int .i64) 2 w55 w0.heap.size (fun k_ => (P0_1_ k_ ∨ w.heap.size ≤ k_) ∧ some k_ ≠ (v165 : Value).ownBlock ∧ some k_ ≠ (v171 : Value).ownBlock ∧ ax k_ (.slice Ao5 l0_1.length co5)) v162 y161) := ⟨h0_⟩
         have n1_ : Aside0 (Kd.R (Kd.int .i64) 2 w55 w0.heap.size (fun k_ => (P0_1_ k_ ∨ w.heap.size ≤ k_) ∧ some k_ ≠ (v162 : Value).ownBlock ∧ some k_ ≠ (v171 : Value).ownBlock ∧ ax k_ (.slice Ao5 l0_1.length co5)) v165 y164) := ⟨h1_⟩
         have n2_ : Aside0 (Kd.R (Kd.int .i64) 2 w55 w0.heap.size (fun k_ => (P0_1_ k_ ∨ w.heap.size ≤ k_) ∧ some k_ ≠ (v162 : Value).ownBlock ∧ some k_ ≠ (v165 : Value).ownBlock ∧ ax k_ (.slice Ao5 l0_1.length co5)) v171 y170) := ⟨h2_⟩
         have n3_ : Aside0 (Kd.R (Kd.int .i64) 2 w55 w0.heap.size (fun k_ => (P0_1_ k_ ∨ w.heap.size ≤ k_) ∧ some k_ ≠ (v162 : Value).ownBlock ∧ some k_ ≠ (v165 : Value).ownBlock ∧ some k_ ≠ (v171 : Value).ownBlock) (.slice Ao5 l0_1.length co5) l0_1) := ⟨h3_⟩
         have n4_ : Aside0 (w55.heap[gb149]? = some (.cells #[.int .i64 a0_0, .slice Ao5 l0_1.length co5, .slice A0_2 l0_2.length c0_2] 51 (0, 0))) := ⟨h4_⟩
         have n5_ : Aside0 (w55.heap[gb150]? = some (.cells #[.int .i64 0, .slice none 0 0, .slice none 0 0] 51 (0, 0))) := ⟨h5_⟩
         have n6_ : Aside0 (Kept w w55 (fun k_ => P0_1_ k_)) := ⟨h6_⟩
         have n7_ : Aside0 (Below w0.heap.size w0 w55) := ⟨h7_⟩
         clear HO_150001 BK149 BK150 HK HB
         clear h0_ h1_ h2_ h3_ h4_ h5_ h6_ h7_
         have HO163 := n0_
         have HO166 := n1_
         have HO172 := n2_
         have HO_150001 := n3_
         have BK149 := n4_
         have BK150 := n5_
         have HK := n6_
         have HB := n7_
         clear n0_ n1_ n2_ n3_ n4_ n5_ n6_ n7_
         have hHeld : w55.cell? ⟨gb149, 0, none⟩ = some (.int .i64 a0_0) ∧ w55.cell? ⟨gb149, 1, none⟩ = some (.slice Ao5 l0_1.length co5) ∧ w55.cell? ⟨gb149, 2, none⟩ = some (.slice A0_2 l0_2.length c0_2) := hS_
         refine norm_ (a' := ?_) ?_ ?_
         rotate_left
         ·simp only [putAll, Act.put, ls, lz, ln]
          rfl
         refine on_ 12 (some 71) (bl 18 32767) HT_ (fun K hK => ?_)
         refine gS Try.func41 #[.slice A0_2 lB.length c0_2] ?_
         with_reducible refine (spec_l01Own.calls _ _ lB t167 _ ?side1 ?side2 A43.out).mono ?_
         (case side1 => exact takeC HLB.out HX2.out (Kd.C_kept_now HR0_2.out (by repeat (first | (with_reducible first | exact HK.out | apply Kept.alloc | apply Kept.drewN | apply Kept.drew | refine Kept.setCell ?_ (.inr GW149.out) _ | refine Kept.setCell ?_ (.inr GW150.out) _) | exact HK.out))))
         (case side2 => exact takeLe HLB.out HC0_2.out)
         rintro e w56 ⟨v168, rfl, ho0, hb⟩
         refine ⟨_, rfl, ?_⟩
         have HO169 := zA (Kd.R_lower (Kd.R_new' (Kd.R_new' (Kd.R_new' (Kd.R_new' (Kd.R_newM (M := fun k_ => (P0_1_ k_ ∨ w.heap.size ≤ k_)) ho0 (by first | exact HK.out.1 | exact (show Kept w _ (fun k_ => P0_1_ k_) from by repeat (first | (with_reducible first | exact HK.out | apply Kept.alloc | apply Kept.drewN | apply Kept.drew | refine Kept.setCell ?_ (.inr GW149.out) _ | refine Kept.setCell ?_ (.inr GW150.out) _) | exact HK.out)).1) (fun k_ h_ => .inr h_)) (Kd.R_lt (uR HO_150001.out))) (Kd.R_lt (uR HO163.out))) (Kd.R_lt (uR HO166.out))) (Kd.R_lt (uR HO172.out))) (below_size (uH HB.out)))
         replace HO_150001 := zA (Kd.R_elder' (uR HO_150001.out) (Kd.R_base ho0) hb)
         replace HO163 := zA (Kd.R_elder' (uR HO163.out) (Kd.R_base ho0) hb)
         replace HO166 := zA (Kd.R_elder' (uR HO166.out) (Kd.R_base ho0) hb)
         replace HO172 := zA (Kd.R_elder' (uR HO172.out) (Kd.R_base ho0) hb)
         replace BK149 := xB BK149 hb
         replace BK150 := xB BK150 hb
         replace HK := zA (Kept.below (S := (fun k_ => P0_1_ k_)) (by repeat (first | (with_reducible first | exact HK.out | apply Kept.alloc | apply Kept.drewN | apply Kept.drew | refine Kept.setCell ?_ (.inr GW149.out) _ | refine Kept.setCell ?_ (.inr GW150.out) _) | exact HK.out)) hb)
         replace HB := xH HB hb
         (try clear hb); (try clear hb2); (try clear hk); (try clear hi); (try clear ho0)
         refine hK.out _ _ ⟨bcu BK149 0, bcu BK149 1, bcu BK149 2⟩ (fun hHeld => ?_)
         clear hK K
         refine no_ 71 ?_
         exact norm_ (by first | (simp only [putAll, Act.put, ls, lz, ln]; done) | (simp only [putAll, Act.put, ls, lz, ln]; rfl)) (hJ4_6_7_12_14 (v159, v162, v165, v168, v171) _ ⟨hHeld, (uR (Kd.R_mono HO163.out (fun _ hk => ⟨hk.1.1, ⟨hk.1.2.1, ⟨hk.2, ⟨hk.1.2.2.1, hk.1.2.2.2⟩⟩⟩⟩))), (uR (Kd.R_mono HO166.out (fun _ hk => ⟨hk.1.1, ⟨hk.1.2.1, ⟨hk.2, ⟨hk.1.2.2.1, hk.1.2.2.2⟩⟩⟩⟩))), (uR (Kd.R_mono HO169.out (fun _ hk => ⟨hk.1.1.1.1.1, ⟨hk.1.1.2, ⟨hk.1.2, ⟨hk.2, hk.1.1.1.2⟩⟩⟩⟩))), (uR (Kd.R_mono HO172.out (fun _ hk => ⟨hk.1.1, ⟨hk.1.2.1, ⟨hk.1.2.2.1, ⟨hk.2, hk.1.2.2.2⟩⟩⟩⟩))), (uR (Kd.R_mono HO_150001.out (fun _ hk => ⟨hk.1.1, ⟨hk.1.2.1, ⟨hk.1.2.2.1, ⟨hk.2, hk.1.2.2.2⟩⟩⟩⟩))), (uB BK149.out), (uB BK150.out), (by repeat (first | (with_reducible first | exact HK.out | apply Kept.alloc | apply Kept.drewN | apply Kept.drew | refine Kept.setCell ?_ (.inr GW149.out) _ | refine Kept.setCell ?_ (.inr GW150.out) _) | exact HK.out)), (uH HB.out)⟩)
       ·skip
        rintro ⟨v159, v162, v165, v168⟩ w54 ⟨hS_, h0_, h1_, h2_, h3_, h4_, h5_, h6_, h7_⟩
        have n0_ : Aside0 (Kd.R (Kd.int .i64) 2 w54 w0.heap.size (fun k_ => (P0_1_ k_ ∨ w.heap.size ≤ k_) ∧ some k_ ≠ (v165 : Value).ownBlock ∧ some k_ ≠ (v168 : Value).ownBlock ∧ ax k_ (.slice Ao5 l0_1.length co5)) v162 y161) := ⟨h0_⟩
        have n1_ : Aside0 (Kd.R (Kd.int .i64) 2 w54 w0.heap.size (fun k_ => (P0_1_ k_ ∨ w.heap.size ≤ k_) ∧ some k_ ≠ (v162 : Value).ownBlock ∧ some k_ ≠ (v168 : Value).ownBlock ∧ ax k_ (.slice Ao5 l0_1.length co5)) v165 y164) := ⟨h1_⟩
        have n2_ : Aside0 (Kd.R (Kd.int .i64) 2 w54 w0.heap.size (fun k_ => (P0_1_ k_ ∨ w.heap.size ≤ k_) ∧ some k_ ≠ (v162 : Value).ownBlock ∧ some k_ ≠ (v165 : Value).ownBlock ∧ ax k_ (.slice Ao5 l0_1.length co5)) v168 t167) := ⟨h2_⟩
        have n3_ : Aside0 (Kd.R (Kd.int .i64) 2 w54 w0.heap.size (fun k_ => (P0_1_ k_ ∨ w.heap.size ≤ k_) ∧ some k_ ≠ (v162 : Value).ownBlock ∧ some k_ ≠ (v165 : Value).ownBlock ∧ some k_ ≠ (v168 : Value).ownBlock) (.slice Ao5 l0_1.length co5) l0_1) := ⟨h3_⟩
        have n4_ : Aside0 (w54.heap[gb149]? = some (.cells #[.int .i64 a0_0, .slice Ao5 l0_1.length co5, .slice A0_2 l0_2.length c0_2] 51 (0, 0))) := ⟨h4_⟩
        have n5_ : Aside0 (w54.heap[gb150]? = some (.cells #[.int .i64 0, .slice none 0 0, .slice none 0 0] 51 (0, 0))) := ⟨h5_⟩
        have n6_ : Aside0 (Kept w w54 (fun k_ => P0_1_ k_)) := ⟨h6_⟩
        have n7_ : Aside0 (Below w0.heap.size w0 w54) := ⟨h7_⟩
        clear HO_150001 BK149 BK150 HK HB
        clear h0_ h1_ h2_ h3_ h4_ h5_ h6_ h7_
        have HO163 := n0_
        have HO166 := n1_
        have HO169 := n2_
        have HO_150001 := n3_
        have BK149 := n4_
        have BK150 := n5_
        have HK := n6_
        have HB := n7_
        clear n0_ n1_ n2_ n3_ n4_ n5_ n6_ n7_
        have hHeld : w54.cell? ⟨gb149, 0, none⟩ = some (.int .i64 a0_0) ∧ w54.cell? ⟨gb149, 1, none⟩ = some (.slice Ao5 l0_1.length co5) ∧ w54.cell? ⟨gb149, 2, none⟩ = some (.slice A0_2 l0_2.length c0_2) := hS_
        refine norm_ (a' := ?_) ?_ ?_
        rotate_left
        ·simp only [putAll, Act.put, ls, lz, ln]
         rfl
        refine on_ 14 (some 73) (bl 18 32767) HT_ (fun K hK => ?_)
        refine Kd.R_lit_step (Kd.int .i64) _ 2 ?hg (N := 73) ?hd (xs := ([a2] : List Int)) (inner := [.int .i64 a2]) (ok := fun _ => True) (okp := fun _ => True) ?hr ?hp (fun _ hk => hk) trivial (Below.refl _ _) (Nat.le_refl _) (by simp) ?_; (case hd => rfl); (case hg => rfl); (case hr => first | (go_simp; done) | (go_simp; rfl)); (case hp => exact (Reps.one (show Kd.M (Kd.int .i64) _ _ _ a2 [.int .i64 a2] from rfl) (Reps.none _ _)))
        intro v171 w55 ho56 hb hg_ hnew_
        clear hg_ hnew_
        (first | rw [← Ny170.out] at ho56 | (simp only [Int.reduceToNat] at ho56; rw [← Ny170.out] at ho56))
        have HO172 := zA (Kd.R_lower (Kd.R_new' (Kd.R_new' (Kd.R_new' (Kd.R_new' (Kd.R_newM (M := fun k_ => (P0_1_ k_ ∨ w.heap.size ≤ k_)) ho56 (by first | exact HK.out.1 | exact (show Kept w _ (fun k_ => P0_1_ k_) from by repeat (first | (with_reducible first | exact HK.out | apply Kept.alloc | apply Kept.drewN | apply Kept.drew | refine Kept.setCell ?_ (.inr GW149.out) _ | refine Kept.setCell ?_ (.inr GW150.out) _) | exact HK.out)).1) (fun k_ h_ => .inr h_)) (Kd.R_lt (uR HO_150001.out))) (Kd.R_lt (uR HO163.out))) (Kd.R_lt (uR HO166.out))) (Kd.R_lt (uR HO169.out))) (below_size (uH HB.out)))
        replace HO_150001 := zA (Kd.R_elder' (uR HO_150001.out) (Kd.R_base ho56) hb)
        replace HO163 := zA (Kd.R_elder' (uR HO163.out) (Kd.R_base ho56) hb)
        replace HO166 := zA (Kd.R_elder' (uR HO166.out) (Kd.R_base ho56) hb)
        replace HO169 := zA (Kd.R_elder' (uR HO169.out) (Kd.R_base ho56) hb)
        replace BK149 := xB BK149 hb
        replace BK150 := xB BK150 hb
        replace HK := zA (Kept.below (S := (fun k_ => P0_1_ k_)) (by repeat (first | (with_reducible first | exact HK.out | apply Kept.alloc | apply Kept.drewN | apply Kept.drew | refine Kept.setCell ?_ (.inr GW149.out) _ | refine Kept.setCell ?_ (.inr GW150.out) _) | exact HK.out)) hb)
        replace HB := xH HB hb
        clear hb ho56
        refine hK.out _ _ ⟨bcu BK149 0, bcu BK149 1, bcu BK149 2⟩ (fun hHeld => ?_)
        clear hK K
        refine no_ 73 ?_
        exact norm_ (by first | (simp only [putAll, Act.put, ls, lz, ln]; done) | (simp only [putAll, Act.put, ls, lz, ln]; rfl)) (hJ4_6_7_12_14 (v159, v162, v165, v168, v171) _ ⟨hHeld, (uR (Kd.R_mono HO163.out (fun _ hk => ⟨hk.1.1, ⟨hk.1.2.1, ⟨hk.1.2.2.1, ⟨hk.2, hk.1.2.2.2⟩⟩⟩⟩))), (uR (Kd.R_mono HO166.out (fun _ hk => ⟨hk.1.1, ⟨hk.1.2.1, ⟨hk.1.2.2.1, ⟨hk.2, hk.1.2.2.2⟩⟩⟩⟩))), (uR (Kd.R_mono HO169.out (fun _ hk => ⟨hk.1.1, ⟨hk.1.2.1, ⟨hk.1.2.2.1, ⟨hk.2, hk.1.2.2.2⟩⟩⟩⟩))), (uR (Kd.R_mono HO172.out (fun _ hk => ⟨hk.1.1.1.1.1, ⟨hk.1.1.2, ⟨hk.1.2, ⟨hk.2, hk.1.1.1.2⟩⟩⟩⟩))), (uR (Kd.R_mono HO_150001.out (fun _ hk => ⟨hk.1.1, ⟨hk.1.2.1, ⟨hk.1.2.2.1, ⟨hk.1.2.2.2, hk.2⟩⟩⟩⟩))), (uB BK149.out), (uB BK150.out), (by repeat (first | (with_reducible first | exact HK.out | apply Kept.alloc | apply Kept.drewN | apply Kept.drew | refine Kept.setCell ?_ (.inr GW149.out) _ | refine Kept.setCell ?_ (.inr GW150.out) _) | exact HK.out)), (uH HB.out)⟩)
      rintro ⟨v159, v162, v165, v168, v171⟩ w56 ⟨hS_, h0_, h1_, h2_, h3_, h4_, h5_, h6_, h7_, h8_⟩
      have n0_ : Aside0 (Kd.R (Kd.int .i64) 2 w56 w0.heap.size (fun k_ => (P0_1_ k_ ∨ w.heap.size ≤ k_) ∧ some k_ ≠ (v165 : Value).ownBlock ∧ some k_ ≠ (v168 : Value).ownBlock ∧ some k_ ≠ (v171 : Value).ownBlock ∧ ax k_ (.slice Ao5 l0_1.length co5)) v162 y161) := ⟨h0_⟩
      have n1_ : Aside0 (Kd.R (Kd.int .i64) 2 w56 w0.heap.size (fun k_ => (P0_1_ k_ ∨ w.heap.size ≤ k_) ∧ some k_ ≠ (v162 : Value).ownBlock ∧ some k_ ≠ (v168 : Value).ownBlock ∧ some k_ ≠ (v171 : Value).ownBlock ∧ ax k_ (.slice Ao5 l0_1.length co5)) v165 y164) := ⟨h1_⟩
      have n2_ : Aside0 (Kd.R (Kd.int .i64) 2 w56 w0.heap.size (fun k_ => (P0_1_ k_ ∨ w.heap.size ≤ k_) ∧ some k_ ≠ (v162 : Value).ownBlock ∧ some k_ ≠ (v165 : Value).ownBlock ∧ some k_ ≠ (v171 : Value).ownBlock ∧ ax k_ (.slice Ao5 l0_1.length co5)) v168 t167) := ⟨h2_⟩
      have n3_ : Aside0 (Kd.R (Kd.int .i64) 2 w56 w0.heap.size (fun k_ => (P0_1_ k_ ∨ w.heap.size ≤ k_) ∧ some k_ ≠ (v162 : Value).ownBlock ∧ some k_ ≠ (v165 : Value).ownBlock ∧ some k_ ≠ (v168 : Value).ownBlock ∧ ax k_ (.slice Ao5 l0_1.length co5)) v171 y170) := ⟨h3_⟩
      have n4_ : Aside0 (Kd.R (Kd.int .i64) 2 w56 w0.heap.size (fun k_ => (P0_1_ k_ ∨ w.heap.size ≤ k_) ∧ some k_ ≠ (v162 : Value).ownBlock ∧ some k_ ≠ (v165 : Value).ownBlock ∧ some k_ ≠ (v168 : Value).ownBlock ∧ some k_ ≠ (v171 : Value).ownBlock) (.slice Ao5 l0_1.length co5) l0_1) := ⟨h4_⟩
      have n5_ : Aside0 (w56.heap[gb149]? = some (.cells #[.int .i64 a0_0, .slice Ao5 l0_1.length co5, .slice A0_2 l0_2.length c0_2] 51 (0, 0))) := ⟨h5_⟩
      have n6_ : Aside0 (w56.heap[gb150]? = some (.cells #[.int .i64 0, .slice none 0 0, .slice none 0 0] 51 (0, 0))) := ⟨h6_⟩
      have n7_ : Aside0 (Kept w w56 (fun k_ => P0_1_ k_)) := ⟨h7_⟩
      have n8_ : Aside0 (Below w0.heap.size w0 w56) := ⟨h8_⟩
      clear HO_150001 BK149 BK150 HK HB
      clear h0_ h1_ h2_ h3_ h4_ h5_ h6_ h7_ h8_
      have HO163 := n0_
      have HO166 := n1_
      have HO169 := n2_
      have HO172 := n3_
      have HO_150001 := n4_
      have BK149 := n5_
      have BK150 := n6_
      have HK := n7_
      have HB := n8_
      clear n0_ n1_ n2_ n3_ n4_ n5_ n6_ n7_ n8_
      have hHeld : w56.cell? ⟨gb149, 0, none⟩ = some (.int .i64 a0_0) ∧ w56.cell? ⟨gb149, 1, none⟩ = some (.slice Ao5 l0_1.length co5) ∧ w56.cell? ⟨gb149, 2, none⟩ = some (.slice A0_2 l0_2.length c0_2) := hS_
      obtain ⟨Ao58, co58, eo58⟩ := Kd.R_slice HO172.out
      (first | subst eo58 | (injection eo58 with f1_ f2_ f3_; have f4_ := f1_.symm; have f5_ := f3_.symm; clear f1_ f2_ f3_; subst f4_; subst f5_))
      refine norm_ (a' := ?_) ?_ ?_
      rotate_left
      ·simp only [putAll, Act.put, ls, lz, ln]
       rfl
      refine on_ 15 (some 74) (bl 18 65535) HT_ (fun K hK => ?_)
      refine Kd.R_append_rows_step (Kd.int .i64) (w0 := w0) w0.heap.size (by rfl) (.tmp 71) (.tmp 73) 22 2 (.int .i64 0) 8 rfl Try.underlying22 info2 rfl (by decide) (by omega) v168 t167 y170 _ _ _ (fun k_ => (P0_1_ k_ ∨ w.heap.size ≤ k_) ∧ ax k_ (.slice Ao5 l0_1.length co5) ∧ some k_ ≠ (v162 : Value).ownBlock ∧ some k_ ≠ (v165 : Value).ownBlock ∧ ax k_ (.slice Ao58 y170.length co58)) (fun _ => False) rfl rfl ?aO ?aR (fun _ _ h => h) (fun _ h => h.elim) ?aF ?aB ?aS ?aL ?_
      (case aR => exact uC ((Kd.R_reads' HO172.out).2.2))
      (case aB => exact (uH HB.out))
      (case aF => exact (fun k_ hk => ⟨(.inr (Nat.le_trans (by first | exact HK.out.1 | exact (show Kept w _ (fun k_ => P0_1_ k_) from by repeat (first | (with_reducible first | exact HK.out | apply Kept.alloc | apply Kept.drewN | apply Kept.drew | refine Kept.setCell ?_ (.inr GW149.out) _ | refine Kept.setCell ?_ (.inr GW150.out) _) | exact HK.out)).1) hk)), Kd.fresh' (Kd.R_lt (uR HO_150001.out)) k_ hk, Kd.fresh' (Kd.R_lt (uR HO163.out)) k_ hk, Kd.fresh' (Kd.R_lt (uR HO166.out)) k_ hk, Kd.fresh' (Kd.R_lt (uR HO172.out)) k_ hk⟩))
      (case aO => exact (uR (Kd.R_mono HO169.out (fun _ hk => ⟨hk.1, ⟨hk.2.2.2.2, ⟨hk.2.1, ⟨hk.2.2.1, hk.2.2.2.1⟩⟩⟩⟩))))
      (case aS => exact (below_size (uH HB.out)))
      (case aL => have := LMc44.out; omega)
      intro v174 w57 ho hb hg hat
      rw [← Ny173.out] at ho
      replace HO_150001 := zA (Kd.R_after (ok := (fun k_ => (P0_1_ k_ ∨ w.heap.size ≤ k_) ∧ some k_ ≠ (v162 : Value).ownBlock ∧ some k_ ≠ (v165 : Value).ownBlock ∧ ax k_ (.slice Ao58 y170.length co58))) (uR (Kd.R_mono HO_150001.out (fun _ hk => ⟨⟨hk.1, ⟨hk.2.1, ⟨hk.2.2.1, hk.2.2.2.2⟩⟩⟩, hk.2.2.2.1⟩))) hg hat)
      replace BK149 := zA (blk_grown (g := gb149) (o := .cells #[.int .i64 a0_0, .slice Ao5 l0_1.length co5, .slice A0_2 l0_2.length c0_2] 51 (0, 0)) (uB BK149.out) hg (Kd.R_ne HO169.out BK149.out (by decide)))
      replace BK150 := zA (blk_grown (g := gb150) (o := .cells #[.int .i64 0, .slice none 0 0, .slice none 0 0] 51 (0, 0)) (uB BK150.out) hg (Kd.R_ne HO169.out BK150.out (by decide)))
      replace HO163 := zA (Kd.R_after (ok := (fun k_ => (P0_1_ k_ ∨ w.heap.size ≤ k_) ∧ ax k_ (.slice Ao5 l0_1.length co5) ∧ some k_ ≠ (v165 : Value).ownBlock ∧ ax k_ (.slice Ao58 y170.length co58))) (uR (Kd.R_mono HO163.out (fun _ hk => ⟨⟨hk.1, ⟨hk.2.2.2.2, ⟨hk.2.1, hk.2.2.2.1⟩⟩⟩, hk.2.2.1⟩))) hg hat)
      replace HO166 := zA (Kd.R_after (ok := (fun k_ => (P0_1_ k_ ∨ w.heap.size ≤ k_) ∧ ax k_ (.slice Ao5 l0_1.length co5) ∧ some k_ ≠ (v162 : Value).ownBlock ∧ ax k_ (.slice Ao58 y170.length co58))) (uR (Kd.R_mono HO166.out (fun _ hk => ⟨⟨hk.1, ⟨hk.2.2.2.2, ⟨hk.2.1, hk.2.2.2.1⟩⟩⟩, hk.2.2.1⟩))) hg hat)
      replace HO172 := zA (Kd.R_after (ok := (fun k_ => (P0_1_ k_ ∨ w.heap.size ≤ k_) ∧ ax k_ (.slice Ao5 l0_1.length co5) ∧ some k_ ≠ (v162 : Value).ownBlock ∧ some k_ ≠ (v165 : Value).ownBlock)) (uR (Kd.R_mono HO172.out (fun _ hk => ⟨⟨hk.1, ⟨hk.2.2.2.2, ⟨hk.2.1, hk.2.2.1⟩⟩⟩, hk.2.2.2.1⟩))) hg hat)
      replace HB := zA (hb)
      replace HK := zA (Kept.of_grown (S := (fun k_ => P0_1_ k_)) hg (by repeat (first | (with_reducible first | exact HK.out | apply Kept.alloc | apply Kept.drewN | apply Kept.drew | refine Kept.setCell ?_ (.inr GW149.out) _ | refine Kept.setCell ?_ (.inr GW150.out) _) | exact HK.out)) (fun k_ e_ => (HO169.out.1 k_ e_).1))
      have HO175 := zA (ho)
      clear HO169
      clear ho hb hg hat
      refine hK.out _ _ ⟨bcu BK149 0, bcu BK149 1, bcu BK149 2⟩ (fun hHeld => ?_)
      clear hK K
      refine no_ 74 ?_
      refine pu_ 16 8 (bl 18 131071) HT_ ?_
      refine pu_ 17 9 (bl 18 262143) HT_ ?_
      refine done_ (done_of HT_.out (by kernel_rfl)) ?_
      have hnb59 := NB149_150.out; have hnc59 := NB150_149.out
      have hcz60_0 := bc BK149 0
      have hcz60_1 := bc BK149 1
      have hcz60_2 := bc BK149 2
      have hfz60_0 := bf BK149 0
      have hfz60_1 := bf BK149 1
      have hfz60_2 := bf BK149 2
      try go_wp2_with (first | ((with_reducible refine gate_builtin (b := .append) (xs := #[.tmp 75, .tmp 79]) rfl ?_); at_builtin; refine Kd.R_append_rows (Kd.int .i64) (w0 := w0) w0.heap.size rfl (.tmp 75) (.tmp 79) 22 2 (.int .i64 0) 8 rfl Try.underlying22 info2 rfl (by decide) (by omega) v165 y164 lC _ _ _ (fun k_ => (P0_1_ k_ ∨ w.heap.size ≤ k_) ∧ ax k_ (.slice Ao5 l0_1.length co5) ∧ some k_ ≠ (v162 : Value).ownBlock ∧ ax k_ (.slice Ao58 y170.length co58) ∧ some k_ ≠ (v174 : Value).ownBlock) (fun _ => False) rfl rfl ?aO ?aR (fun _ _ h => h) (fun _ h => h.elim) ?aF ?aB ?aS ?aL ?_; (case aR => exact uC (HCC.out _ (Kd.R_reads' HO_150001.out).2.2)); (case aB => exact (uH HB.out)); (case aF => exact (fun k_ hk => ⟨(.inr (Nat.le_trans (by first | exact HK.out.1 | exact (show Kept w _ (fun k_ => P0_1_ k_) from by repeat (first | (with_reducible first | exact HK.out | apply Kept.alloc | apply Kept.drewN | apply Kept.drew | refine Kept.setCell ?_ (.inr GW149.out) _ | refine Kept.setCell ?_ (.inr GW150.out) _) | exact HK.out)).1) hk)), Kd.fresh' (Kd.R_lt (uR HO_150001.out)) k_ hk, Kd.fresh' (Kd.R_lt (uR HO163.out)) k_ hk, Kd.fresh' (Kd.R_lt (uR HO172.out)) k_ hk, Kd.fresh' (Kd.R_lt (uR HO175.out)) k_ hk⟩)); (case aO => exact (uR (Kd.R_mono HO166.out (fun _ hk => ⟨hk.1.1, ⟨hk.1.2.1, ⟨hk.1.2.2.1, ⟨hk.1.2.2.2, hk.2⟩⟩⟩⟩)))); (case aS => exact (below_size (uH HB.out))); (case aL => have := LMc45.out; omega); intro v177 w61 ho hb hg hat; rw [← Ny176.out] at ho; replace HO_150001 := zA (Kd.R_after (ok := (fun k_ => (P0_1_ k_ ∨ w.heap.size ≤ k_) ∧ some k_ ≠ (v162 : Value).ownBlock ∧ ax k_ (.slice Ao58 y170.length co58) ∧ some k_ ≠ (v174 : Value).ownBlock)) (uR (Kd.R_mono HO_150001.out (fun _ hk => ⟨⟨hk.1.1, ⟨hk.1.2.1, ⟨hk.1.2.2.2, hk.2⟩⟩⟩, hk.1.2.2.1⟩))) hg hat); replace BK149 := zA (blk_grown (g := gb149) (o := .cells #[.int .i64 a0_0, .slice Ao5 l0_1.length co5, .slice A0_2 l0_2.length c0_2] 51 (0, 0)) (uB BK149.out) hg (Kd.R_ne HO166.out BK149.out (by decide))); replace BK150 := zA (blk_grown (g := gb150) (o := .cells #[.int .i64 0, .slice none 0 0, .slice none 0 0] 51 (0, 0)) (uB BK150.out) hg (Kd.R_ne HO166.out BK150.out (by decide))); replace HO163 := zA (Kd.R_after (ok := (fun k_ => (P0_1_ k_ ∨ w.heap.size ≤ k_) ∧ ax k_ (.slice Ao5 l0_1.length co5) ∧ ax k_ (.slice Ao58 y170.length co58) ∧ some k_ ≠ (v174 : Value).ownBlock)) (uR (Kd.R_mono HO163.out (fun _ hk => ⟨⟨hk.1.1, ⟨hk.1.2.1, ⟨hk.1.2.2.2, hk.2⟩⟩⟩, hk.1.2.2.1⟩))) hg hat); replace HO172 := zA (Kd.R_after (ok := (fun k_ => (P0_1_ k_ ∨ w.heap.size ≤ k_) ∧ ax k_ (.slice Ao5 l0_1.length co5) ∧ some k_ ≠ (v162 : Value).ownBlock ∧ some k_ ≠ (v174 : Value).ownBlock)) (uR (Kd.R_mono HO172.out (fun _ hk => ⟨⟨hk.1.1, ⟨hk.1.2.1, ⟨hk.1.2.2.1, hk.2⟩⟩⟩, hk.1.2.2.2⟩))) hg hat); replace HO175 := zA (Kd.R_after (ok := (fun k_ => (P0_1_ k_ ∨ w.heap.size ≤ k_) ∧ ax k_ (.slice Ao5 l0_1.length co5) ∧ some k_ ≠ (v162 : Value).ownBlock ∧ ax k_ (.slice Ao58 y170.length co58))) (uR (Kd.R_mono HO175.out (fun _ hk => ⟨⟨hk.1, ⟨hk.2.1, ⟨hk.2.2.1, hk.2.2.2.2⟩⟩⟩, hk.2.2.2.1⟩))) hg hat); replace HB := zA (hb); replace HK := zA (Kept.of_grown (S := (fun k_ => P0_1_ k_)) hg (by repeat (first | (with_reducible first | exact HK.out | apply Kept.alloc | apply Kept.drewN | apply Kept.drew | refine Kept.setCell ?_ (.inr GW149.out) _ | refine Kept.setCell ?_ (.inr GW150.out) _) | exact HK.out)) (fun k_ e_ => (HO166.out.1 k_ e_).1.1)); have HO178 := zA (ho); clear HO166 ho hb hg hat; obtain ⟨Ao62, co62, eo62⟩ := Kd.R_slice HO178.out; subst eo62; have hcz63_0 := bc BK149 0; have hcz63_1 := bc BK149 1; have hcz63_2 := bc BK149 2; have hfz63_0 := bf BK149 0; have hfz63_1 := bf BK149 1; have hfz63_2 := bf BK149 2) | ((with_reducible refine gate_builtin (b := .append) (xs := #[.tmp 82, .tmp 86]) rfl ?_); at_builtin; refine Kd.R_append_rows (Kd.int .i64) (w0 := w0) w0.heap.size rfl (.tmp 82) (.tmp 86) 22 2 (.int .i64 0) 8 rfl Try.underlying22 info2 rfl (by decide) (by omega) v174 y173 lD _ _ _ (fun k_ => (P0_1_ k_ ∨ w.heap.size ≤ k_) ∧ ax k_ (.slice Ao5 l0_1.length co5) ∧ some k_ ≠ (v162 : Value).ownBlock ∧ ax k_ (.slice Ao58 y170.length co58) ∧ ax k_ (.slice Ao62 y176.length co62)) (fun _ => False) rfl rfl ?aO ?aR (fun _ _ h => h) (fun _ h => h.elim) ?aF ?aB ?aS ?aL ?_; (case aR => exact HDD.out _ (Kd.C_kept_now HR0_2.out (by repeat (first | (with_reducible first | exact HK.out | apply Kept.alloc | apply Kept.drewN | apply Kept.drew | refine Kept.setCell ?_ (.inr GW149.out) _ | refine Kept.setCell ?_ (.inr GW150.out) _) | exact HK.out)))); (case aB => exact (uH HB.out)); (case aF => exact (fun k_ hk => ⟨(.inr (Nat.le_trans (show Kept w _ (fun k_ => P0_1_ k_) from by repeat (first | (with_reducible first | exact HK.out | apply Kept.alloc | apply Kept.drewN | apply Kept.drew | refine Kept.setCell ?_ (.inr GW149.out) _ | refine Kept.setCell ?_ (.inr GW150.out) _) | exact HK.out)).1 hk)), Kd.fresh' (Kd.R_lt (uR ((Kd.R_mono (Kd.R_far (p := ⟨gb149, 1, none⟩) (Kd.R_types HO_150001.out BK149.out (by decide)) (fun _ hk => hk.2) (.slice Ao62 y176.length co62)) (fun _ h_ => h_.1))))) k_ hk, Kd.fresh' (Kd.R_lt (uR ((Kd.R_mono (Kd.R_far (p := ⟨gb149, 1, none⟩) (Kd.R_types HO163.out BK149.out (by decide)) (fun _ hk => hk.2) (.slice Ao62 y176.length co62)) (fun _ h_ => h_.1))))) k_ hk, Kd.fresh' (Kd.R_lt (uR ((Kd.R_mono (Kd.R_far (p := ⟨gb149, 1, none⟩) (Kd.R_types HO172.out BK149.out (by decide)) (fun _ hk => hk.2) (.slice Ao62 y176.length co62)) (fun _ h_ => h_.1))))) k_ hk, Kd.fresh' (Kd.R_lt (uR ((Kd.R_mono (Kd.R_far (p := ⟨gb149, 1, none⟩) (Kd.R_types HO178.out BK149.out (by decide)) (fun _ hk => hk.2) (.slice Ao62 y176.length co62)) (fun _ h_ => h_.1))))) k_ hk⟩)); (case aO => exact (uR (Kd.R_mono (Kd.R_far (p := ⟨gb149, 1, none⟩) (Kd.R_types HO175.out BK149.out (by decide)) (fun _ hk => hk.2) (.slice Ao62 y176.length co62)) (fun _ hk => ⟨hk.1.1.1, ⟨hk.1.1.2.1, ⟨hk.1.1.2.2.1, ⟨hk.1.1.2.2.2, hk.1.2⟩⟩⟩⟩)))); (case aS => exact (below_size (uH HB.out))); (case aL => have := LMc46.out; omega); intro v180 w64 ho hb hg hat; rw [← Ny179.out] at ho; replace HO_150001 := zA (Kd.R_after (ok := (fun k_ => (P0_1_ k_ ∨ w.heap.size ≤ k_) ∧ some k_ ≠ (v162 : Value).ownBlock ∧ ax k_ (.slice Ao58 y170.length co58) ∧ ax k_ (.slice Ao62 y176.length co62))) (uR (Kd.R_mono (Kd.R_far (p := ⟨gb149, 1, none⟩) (Kd.R_types HO_150001.out BK149.out (by decide)) (fun _ hk => hk.2) (.slice Ao62 y176.length co62)) (fun _ hk => ⟨⟨hk.1.1.1, ⟨hk.1.1.2.1, ⟨hk.1.1.2.2.1, hk.1.2⟩⟩⟩, hk.1.1.2.2.2⟩))) hg hat); replace BK150 := zA (blk_grown (g := gb150) (o := .cells #[.int .i64 0, .slice none 0 0, .slice none 0 0] 51 (0, 0)) (by (repeat refine up1 ?_); refine blk_far ?_ NB150_149.out _; (repeat refine up1 ?_); exact BK150.out) hg (Kd.R_ne HO175.out BK150.out (by decide))); replace HO163 := zA (Kd.R_after (ok := (fun k_ => (P0_1_ k_ ∨ w.heap.size ≤ k_) ∧ ax k_ (.slice Ao5 l0_1.length co5) ∧ ax k_ (.slice Ao58 y170.length co58) ∧ ax k_ (.slice Ao62 y176.length co62))) (uR (Kd.R_mono (Kd.R_far (p := ⟨gb149, 1, none⟩) (Kd.R_types HO163.out BK149.out (by decide)) (fun _ hk => hk.2) (.slice Ao62 y176.length co62)) (fun _ hk => ⟨⟨hk.1.1.1, ⟨hk.1.1.2.1, ⟨hk.1.1.2.2.1, hk.1.2⟩⟩⟩, hk.1.1.2.2.2⟩))) hg hat); replace HO172 := zA (Kd.R_after (ok := (fun k_ => (P0_1_ k_ ∨ w.heap.size ≤ k_) ∧ ax k_ (.slice Ao5 l0_1.length co5) ∧ some k_ ≠ (v162 : Value).ownBlock ∧ ax k_ (.slice Ao62 y176.length co62))) (uR (Kd.R_mono (Kd.R_far (p := ⟨gb149, 1, none⟩) (Kd.R_types HO172.out BK149.out (by decide)) (fun _ hk => hk.2) (.slice Ao62 y176.length co62)) (fun _ hk => ⟨⟨hk.1.1.1, ⟨hk.1.1.2.1, ⟨hk.1.1.2.2.1, hk.1.2⟩⟩⟩, hk.1.1.2.2.2⟩))) hg hat); replace HO178 := zA (Kd.R_after (ok := (fun k_ => (P0_1_ k_ ∨ w.heap.size ≤ k_) ∧ ax k_ (.slice Ao5 l0_1.length co5) ∧ some k_ ≠ (v162 : Value).ownBlock ∧ ax k_ (.slice Ao58 y170.length co58))) (uR (Kd.R_mono (Kd.R_far (p := ⟨gb149, 1, none⟩) (Kd.R_types HO178.out BK149.out (by decide)) (fun _ hk => hk.2) (.slice Ao62 y176.length co62)) (fun _ hk => ⟨⟨hk.1.1, ⟨hk.1.2.1, ⟨hk.1.2.2.1, hk.1.2.2.2.1⟩⟩⟩, hk.1.2.2.2.2⟩))) hg hat); replace BK149 := zA (blk_grown (g := gb149) (o := .cells #[.int .i64 a0_0, .slice Ao62 y176.length co62, .slice A0_2 l0_2.length c0_2] 51 (0, 0)) (by (repeat refine up1 ?_); refine blk_put (cs := #[.int .i64 a0_0, .slice Ao5 l0_1.length co5, .slice A0_2 l0_2.length c0_2]) ?_ 1 _ rfl; (repeat refine up1 ?_); exact BK149.out) hg (Kd.R_ne HO175.out BK149.out (by decide))); replace HB := zA (hb); replace HK := zA (Kept.of_grown (S := (fun k_ => P0_1_ k_)) hg (by repeat (first | (with_reducible first | exact HK.out | apply Kept.alloc | apply Kept.drewN | apply Kept.drew | refine Kept.setCell ?_ (.inr GW149.out) _ | refine Kept.setCell ?_ (.inr GW150.out) _) | exact HK.out)) (fun k_ e_ => (HO175.out.1 k_ e_).1.1)); have HO181 := zA (ho); clear HO175 ho hb hg hat; obtain ⟨Ao65, co65, eo65⟩ := Kd.R_slice HO181.out; subst eo65; have hcz66_0 := bc BK149 0; have hcz66_1 := bc BK149 1; have hcz66_2 := bc BK149 2; have hfz66_0 := bf BK149 0; have hfz66_1 := bf BK149 1; have hfz66_2 := bf BK149 2; have hcz67_0 := bc BK150 0; have hcz67_1 := bc BK150 1; have hcz67_2 := bc BK150 2; have hfz67_0 := bf BK150 0; have hfz67_1 := bf BK150 1; have hfz67_2 := bf BK150 2))
      refine bodyPost_ret (results_cell_row rfl _ _ gb150 51 #[.int .i64 a0_0, .slice Ao62 y176.length co62, .slice Ao65 y179.length co65] (0, 0) _ rfl (by (repeat refine up1 ?_); refine blk_put (cs := #[.int .i64 a0_0, .slice Ao62 y176.length co62, .slice none 0 0]) ?_ 2 _ rfl; (repeat refine up1 ?_); refine blk_put (cs := #[.int .i64 a0_0, .slice none 0 0, .slice none 0 0]) ?_ 1 _ rfl; (repeat refine up1 ?_); refine blk_put (cs := #[.int .i64 0, .slice none 0 0, .slice none 0 0]) ?_ 0 _ rfl; (repeat refine up1 ?_); refine blk_far ?_ NB150_149.out _; (repeat refine up1 ?_); exact BK150.out) Try.underlying51 rfl (by kernel_rfl)) rfl ?_
      exact ⟨_, _, by first | rfl | (simp [errW_none, errW_some] <;> rfl) | (simp [*, errW_none, errW_some] <;> rfl), uR (Kd.R_mono (Kd.R_far (p := ⟨gb150, 2, none⟩) (Kd.R_far (p := ⟨gb150, 1, none⟩) (Kd.R_far (p := ⟨gb150, 0, none⟩) (Kd.R_far (p := ⟨gb149, 2, none⟩) (Kd.R_types (Kd.R_types HO178.out BK149.out (by decide)) BK150.out (by decide)) (fun _ hk => hk.1.2) (.slice Ao65 y179.length co65)) (fun _ hk => hk.2) (.int .i64 a0_0)) (fun _ hk => hk.2) (.slice Ao62 y176.length co62)) (fun _ hk => hk.2) (.slice Ao65 y179.length co65)) (fun _ hk => ⟨hk.1.1.1.1, hk.1.1.2⟩)), uR (Kd.R_mono (Kd.R_far (p := ⟨gb150, 2, none⟩) (Kd.R_far (p := ⟨gb150, 1, none⟩) (Kd.R_far (p := ⟨gb150, 0, none⟩) (Kd.R_far (p := ⟨gb149, 2, none⟩) (Kd.R_types (Kd.R_types HO181.out BK149.out (by decide)) BK150.out (by decide)) (fun _ hk => hk.1.2) (.slice Ao65 y179.length co65)) (fun _ hk => hk.2) (.int .i64 a0_0)) (fun _ hk => hk.2) (.slice Ao62 y176.length co62)) (fun _ hk => hk.2) (.slice Ao65 y179.length co65)) (fun _ hk => ⟨hk.1.1.1, hk.1.1.2.2.2.2⟩)), uH HB.out, by repeat (first | (with_reducible first | exact HK.out | apply Kept.alloc | apply Kept.drewN | apply Kept.drew | refine Kept.setCell ?_ (.inr GW149.out) _ | refine Kept.setCell ?_ (.inr GW150.out) _) | exact HK.out)⟩
end Go.Proofs.Ytjdannndpfkadaa.Pr
