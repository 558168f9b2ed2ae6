/- Printed by a program of this session out of the translation: what these functions of the program compute, under the conditions that each theorem names. -/
import Derived.Test.YtfbnkebgdmfcfaaKOrthogonalPolynomial1
import Derived.Test.YtfbnkebgdmfcfaaKOrthogonalPolynomial3
import Derived.Test.YtfbnkebgdmfcfaaKOrthogonalPolynomial4
import Derived.Test.YtfbnkebgdmfcfaaKOrthogonalPolynomial5
namespace Go.Proofs.Ytfbnkebgdmfcfaa.Pr
open Go.RowKit Go.Proofs.YtfbnkebgdmfcfaaW.PrintWords Go.Proofs.YtfbnkebgdmfcfaaW.PrintLast Go.Proofs.YtfbnkebgdmfcfaaW.PrintMore
attribute [local go_sem] max2_int min2_int max_two min_two max_three min_three max_four min_four   -- for this text's walks alone
set_option linter.unusedVariables false
set_option linter.unusedSimpArgs false

/-! ### spec_l04Polys: function 85 -/
def spec_l04Polys.l0 : Nat → Int → List (List Int) → Int → Int → Int → Int → List Int → Option ((List (List Int)))
 | 0, _, _, _, _, _, _, _ => none
 | k + 1, x1, x5, x6, x7, x8, x188000, x188001 => if x8 < x1 then (if 0 ≤ x8 then (if x8 < (x5.length : Int) then ((spec_l04Norm.f k x188000 x188001 (rd_L1 x5 x8) 0).bind fun t195 => ((spec_l01Inverse.f k x6 t195).bind fun t196 => ((spec_l04Norm.f k x188000 x188001 (rd_L1 x5 x8) 1).bind fun t197 => (if x6 = 0 then (none) else ((spec_l01Mod.f x6 (wrap64 (-(Int.tmod (wrap64 (t197 * t196)) x6)))).bind fun t198 => ((spec_l01Trim.f k (([t198, 1] : List Int))).bind fun t202 => ((spec_l01Times.f k x6 (rd_L1 x5 x8) t202).bind fun t205 => (if x8 > 0 then (if 0 ≤ (wrap64 (x8 - 1)) then (if (wrap64 (x8 - 1)) < (x5.length : Int) then ((spec_l01Inverse.f k x6 x7).bind fun t209 => ((spec_l01Mod.f x6 (wrap64 ((wrap64 (-t195)) * t209))).bind fun t210 => ((spec_l01Add.f k x6 t205 (rd_L1 x5 (wrap64 (x8 - 1))) t210).bind fun t211 => (if x5.length < 5864062014805 then (spec_l04Polys.l0 k x1 (x5 ++ [t211]) x6 t195 (wrap64 (x8 + 1)) x188000 x188001) else (none))))) else (none)) else (none)) else (if x5.length < 5864062014805 then (spec_l04Polys.l0 k x1 (x5 ++ [t205]) x6 t195 (wrap64 (x8 + 1)) x188000 x188001) else (none)))))))))) else (none)) else (none)) else (some x5)
def spec_l04Polys.f (k : Nat) (a0_0 : Int) (l0_1 : List Int) (a1 : Int) : Option ((List (List Int))) := spec_l04Polys.l0 k a1 (([(([1] : List Int))] : List (List Int))) a0_0 1 0 a0_0 l0_1
def spec_l04Polys.T12 : Bool × List (List Nat × List Nat) := (true, [([], []), ([], []), ([], []), ([], []), ([3], [3]), ([2, 4], [2, 4]), ([5], [5]), ([], []), ([], []), ([8], [8]), ([], []), ([], []), ([10, 11], [10, 11]), ([9, 12], [9, 12]), ([7, 13, 12], [7, 13]), ([0, 1, 6, 14, 14], [0, 1, 6, 14]), ([15, 15, 0, 1, 2, 3, 4, 5, 6, 7, 8, 9, 10, 11, 12, 13, 14, 15], [1, 15])])
def spec_l04Polys.B12 : List Nat := [0, 0, 0, 0, 8, 28, 60, 0, 0, 256, 0, 0, 3072, 7936, 16256, 32767, 65535]
theorem spec_l04Polys.tab12 : rtab .any (opsOf Try.f85 12) = spec_l04Polys.T12 := by kernel_rfl
theorem spec_l04Polys.bits12 : waitsOk spec_l04Polys.T12.2 spec_l04Polys.B12 = true := by kernel_rfl
set_option maxHeartbeats 8000000 in
set_option maxRecDepth 100000 in
theorem spec_l04Polys.calls (k : Nat) (a0_0 : Int) (A0_1 : Option Addr) (c0_1 : Nat) (l0_1 : List Int) (a1 : Int) (r : List (List Int)) (w : World) (hr0_1 : Kd.C (Kd.int .i64) w A0_1 l0_1.length l0_1) (hc0_1 : l0_1.length ≤ c0_1) (h : spec_l04Polys.f k a0_0 l0_1 a1 = some r) :
  Calls Try.prog 85 #[.agg #[.int .i64 a0_0, .slice A0_1 l0_1.length c0_1], .int .i64 a1] w fun e w' => ∃ v0_ : Value, e = .returned (v0_) ∧ Kd.N (Kd.slice 2 (Kd.int .i64)) 22 w' w.heap.size (fun k_ => (w.heap.size ≤ k_)) v0_ r ∧ Below w.heap.size w w' := by
 have hu40 := Try.underlying40
 have HR0_1 := zA hr0_1
 have HC0_1 := zA hc0_1
 clear hr0_1 hc0_1
 have HB := zA (Below.refl w.heap.size w)
 have H : (spec_l04Polys.l0 k a1 (([(([1] : List Int))] : List (List Int))) a0_0 1 0 a0_0 l0_1) = some r := h
 clear h
 obtain ⟨y188, hy188⟩ : ∃ y_ : List Int, y_ = (([1] : List Int)) := ⟨_, rfl⟩
 replace H : (spec_l04Polys.l0 k a1 (([y188] : List (List Int))) a0_0 1 0 a0_0 l0_1) = some r := by first | (rw [hy188]; exact H) | exact H
 have Ny188 := zA hy188
 clear hy188
 obtain ⟨y191, hy191⟩ : ∃ y_ : List (List Int), y_ = (([y188] : List (List Int))) := ⟨_, rfl⟩
 replace H : (spec_l04Polys.l0 k a1 y191 a0_0 1 0 a0_0 l0_1) = some r := by first | (rw [hy191]; exact H) | exact H
 have Ny191 := zA hy191
 clear hy191
 have H' := zA H
 clear H
 go_enter Try.func85, Try.ntmps85
 try go_wp2_with (first | ((with_reducible refine gate_dst (N := 2) rfl ?_); refine bx 2 #[.int .i64 a0_0, .slice A0_1 l0_1.length c0_1] 40 ?_; intro gb187 hg w3 hbox hb; have BK187 := zA (hbox); have GW187 := gq HB hg; have GE187 := gq HB hg; replace HB := xH HB hb; have := geI GE187; clear hb hbox hg))
 replace BK187 := zA (blk_drew BK187.out)
 replace HB := zA (below_drew1 HB.out)
 refine start_ (n := 6) (S := fun w' => w'.cell? ⟨gb187, 0, none⟩ = some (.int .i64 a0_0) ∧ w'.cell? ⟨gb187, 1, none⟩ = some (.slice A0_1 l0_1.length c0_1)) (ds := []) #[false, false, false, false, false, false] (by kernel_rfl) rfl rfl ⟨bcu BK187 0, bcu BK187 1⟩ (fun hHeld => ?_)
 generalize w3.drew = w4 at BK187 HB hHeld ⊢
 refine pure_ (i := 2) (N := some 16) (v := ?_) (a' := ?_) (bl 6 4) rfl rfl (by kernel_rfl) (fun _ _ _ h => h) (Or.inl ⟨by rfl, ?_⟩) ?_ ?_
 rotate_left
 ·intro w'
  go_simp
  with_reducible rfl
 rotate_left
 ·simp only [Act.put, ls, lz, ln, i64_w, i32_w]
  rfl
 refine take_ (i := 3) (N := some 17) (v := ?_) (a' := ?_) (bl 6 12) rfl rfl (by kernel_rfl) (fun _ _ _ h => h) (Or.inl ⟨by rfl, ?_⟩) hHeld ?_ ?_
 rotate_left
 ·rintro w' ⟨s0, s1⟩
  go_simp
  with_reducible rfl
 rotate_left
 ·simp only [Act.put, ls, lz, ln, i64_w, i32_w]
  rfl
 refine one_ (i := 0) (N := some 14) (bl 6 13) rfl rfl (by kernel_rfl) (by decide) (fun K hK => ?_)
 refine Kd.R_lit_step (Kd.int .i64) _ 2 ?hg (N := 14) ?hd (xs := ([1] : List Int)) (inner := [.int .i64 1]) (ok := fun _ => True) (okp := fun _ => True) ?hr ?hp (fun _ hk => hk) trivial (Below.refl _ _) (Nat.le_refl _) (by simp) ?_; (case hd => rfl); (case hg => rfl); (case hr => first | (go_simp; done) | (go_simp; rfl)); (case hp => exact (Reps.one (show Kd.M (Kd.int .i64) _ _ _ 1 [.int .i64 1] from rfl) (Reps.none _ _)))
 intro v189 w5 ho6 hb hg_ hnew_
 clear hg_ hnew_
 (first | rw [← Ny188.out] at ho6 | (simp only [Int.reduceToNat] at ho6; rw [← Ny188.out] at ho6))
 have HO190 := zA (Kd.R_lower (Kd.R_newM (M := fun k_ => (w.heap.size ≤ k_)) ho6 (below_size (uH HB.out)) (fun k_ h_ => h_)) (below_size (uH HB.out)))
 replace BK187 := xB BK187 hb
 replace HB := xH HB hb
 clear hb ho6
 obtain ⟨Ao7, co7, eo7⟩ := Kd.R_slice HO190.out
 (first | subst eo7 | (injection eo7 with f1_ f2_ f3_; have f4_ := f1_.symm; have f5_ := f3_.symm; clear f1_ f2_ f3_; subst f4_; subst f5_))
 refine hK.out _ _ ⟨bcu BK187 0, bcu BK187 1⟩ (fun hHeld => ?_)
 clear hK K
 refine no_ 14 ?_
 refine one_ (i := 1) (N := some 15) (bl 6 15) rfl rfl (by kernel_rfl) (by decide) (fun K hK => ?_)
 refine Kd.N_lit_step (Kd.slice 2 (Kd.int .i64)) _ 22 ?hg (N' := 15) ?hd (xs := ([y188] : List (List Int))) (inner := [.slice Ao7 y188.length co7]) (ok := (fun k_ => (w.heap.size ≤ k_) ∧ k_ ≠ gb187)) (okp := (fun k_ => (w.heap.size ≤ k_) ∧ k_ ≠ gb187)) ?hr ?hp (fun _ hk => hk) ((show ∀ k_, w5.heap.size ≤ k_ → (fun k_ => (w.heap.size ≤ k_) ∧ k_ ≠ gb187) k_ from fun k_ hk => ⟨(Nat.le_trans (below_size (uH HB.out)) hk), Kd.freshB (g := gb187) (o := .cells #[.int .i64 a0_0, .slice A0_1 l0_1.length c0_1] 40 (0, 0)) (uB BK187.out) k_ hk⟩) _ (Nat.le_refl _)) (Below.refl _ _) (Nat.le_refl _) (by simp) ?_; (case hd => rfl); (case hg => rfl); (case hr => first | (go_simp; done) | (go_simp; rfl)); (case hp => exact (Reps.one (show Kd.FK (Kd.slice 2 (Kd.int .i64)) _ _ y188 [.slice Ao7 y188.length co7] from (Kd.FK_slice_mk (Kd.R_reads' (Kd.R_mono (ok' := (fun k_ => (w.heap.size ≤ k_) ∧ k_ ≠ gb187)) (Kd.R_types (HO190.out) BK187.out (by decide)) (fun k_ hk => ⟨hk.1.1, hk.2⟩))).2.1 (Kd.R_F (Kd.R_mono (ok' := (fun k_ => (w.heap.size ≤ k_) ∧ k_ ≠ gb187)) (Kd.R_types (HO190.out) BK187.out (by decide)) (fun k_ hk => ⟨hk.1.1, hk.2⟩))))) (Reps.none _ _)))
 intro v192 w8 ho9 hb hg_ hnew_
 clear hg_ hnew_
 (first | rw [← Ny191.out] at ho9 | (simp only [Int.reduceToNat] at ho9; rw [← Ny191.out] at ho9))
 have HO193 := zA (Kd.N_lower ho9 (below_size (uH HB.out)))
 replace BK187 := xB BK187 hb
 replace HB := xH HB hb
 clear HO190
 clear hb ho9
 refine hK.out _ _ ⟨bcu BK187 0, bcu BK187 1⟩ (fun hHeld => ?_)
 clear hK K
 refine no_ 15 ?_
 refine pure_ (i := 4) (N := some 5) (v := ?_) (a' := ?_) (bl 6 31) rfl rfl (by kernel_rfl) (fun _ _ _ h => h) (Or.inl ⟨by rfl, ?_⟩) ?_ ?_
 rotate_left
 ·intro w'
  go_simp
  with_reducible rfl
 rotate_left
 ·simp only [Act.put, ls, lz, ln, i64_w, i32_w]
  rfl
 refine pure_ (i := 5) (N := some 6) (v := ?_) (a' := ?_) (bl 6 63) rfl rfl (by kernel_rfl) (fun _ _ _ h => h) (Or.inl ⟨by rfl, ?_⟩) ?_ ?_
 rotate_left
 ·intro w'
  go_simp
  with_reducible rfl
 rotate_left
 ·simp only [Act.put, ls, lz, ln, i64_w, i32_w]
  rfl
 refine done_ (by kernel_rfl) ?_
 try go_wp2
 go_loopg [5, 7, 8] k (fun kq v5 v7 v8 w' => ∃ (x5_1 : List (List Int)) (x7_1 : Int) (x8_1 : Int), v7 = .int .i64 x7_1 ∧ v8 = .int .i64 x8_1 ∧ Aside0 (spec_l04Polys.l0 kq a1 x5_1 a0_0 x7_1 x8_1 a0_0 l0_1 = some r) ∧ Aside0 (kq ≤ k) ∧ Aside0 (Kd.N (Kd.slice 2 (Kd.int .i64)) 22 w' w.heap.size (fun k_ => (w.heap.size ≤ k_) ∧ k_ ≠ gb187) v5 x5_1) ∧ Aside0 (w'.heap[gb187]? = some (.cells #[.int .i64 a0_0, (.slice A0_1 l0_1.length c0_1)] 40 (0, 0))) ∧ Aside0 (Below w.heap.size w w'))
 case atStart => exact ⟨(y191), (1), (0), (by first | rfl | (simp; done) | (simp [*]; done)), (by first | rfl | (simp; done) | (simp [*]; done)), H', ⟨Nat.le_refl _⟩, ⟨by (with_reducible repeat (first | apply Kd.N_alloc | apply Kd.N_drewN | apply Kd.N_drew)); exact HO193.out⟩, ⟨uB BK187.out⟩, ⟨uH HB.out⟩⟩
 case round =>
  clear H'
  (try clear p2);(try clear c8)
  obtain ⟨x5_1, x7_1, x8_1, rfl, rfl, HA, HK1, HO_5, BK187, HB⟩ := hrel
  cases gk with
  | zero => exact absurd HA.out (by simp [spec_l04Polys.l0])
  | succ k1 =>
   have H := HA.out
   clear HA
   simp only [spec_l04Polys.l0] at H
   by_cases c10 : x8_1 < a1
   rotate_left
   ·rw [if_neg c10] at H
    have c10b0 : decide (x8_1 < a1) = false := decide_eq_false c10
    clear c10
    obtain rfl := Option.some.inj H
    go_wp2
    go_ret
    exact ⟨_, by first | rfl | (simp [errW_none, errW_some] <;> rfl) | (simp [*, errW_none, errW_some] <;> rfl), by (with_reducible repeat (first | apply Kd.N_alloc | apply Kd.N_drewN | apply Kd.N_drew)); exact Kd.N_mono HO_5.out (fun _ hk => hk.1), uH HB.out⟩

   rw [if_pos c10] at H
   have c10b0 : decide (x8_1 < a1) = true := decide_eq_true c10
   clear c10
   by_cases c11 : 0 ≤ x8_1
   rotate_left
   ·rw [if_neg c11] at H
    exact absurd H (by simp)
   rw [if_pos c11] at H
   have c11b0 : decide (0 ≤ x8_1) = true := decide_eq_true c11
   clear c11
   by_cases c12 : x8_1 < (x5_1.length : Int)
   rotate_left
   ·rw [if_neg c12] at H
    exact absurd H (by simp)
   rw [if_pos c12] at H
   have c12b0 : decide (x8_1 < (x5_1.length : Int)) = true := decide_eq_true c12
   clear c12
   replace H := Option.bind_eq_some_iff.mp H
   obtain ⟨t195, A130, H⟩ := H
   replace H : ((spec_l01Inverse.f k1 a0_0 t195).bind fun t196 => ((spec_l04Norm.f k1 a0_0 l0_1 (rd_L1 x5_1 x8_1) 1).bind fun t197 => (if a0_0 = 0 then (none) else ((spec_l01Mod.f a0_0 (wrap64 (-(Int.tmod (wrap64 (t197 * t196)) a0_0)))).bind fun t198 => ((spec_l01Trim.f k1 (([t198, 1] : List Int))).bind fun t202 => ((spec_l01Times.f k1 a0_0 (rd_L1 x5_1 x8_1) t202).bind fun t205 => (if x8_1 > 0 then (if 0 ≤ (wrap64 (x8_1 - 1)) then (if (wrap64 (x8_1 - 1)) < (x5_1.length : Int) then ((spec_l01Inverse.f k1 a0_0 x7_1).bind fun t209 => ((spec_l01Mod.f a0_0 (wrap64 ((wrap64 (-t195)) * t209))).bind fun t210 => ((spec_l01Add.f k1 a0_0 t205 (rd_L1 x5_1 (wrap64 (x8_1 - 1))) t210).bind fun t211 => (if x5_1.length < 5864062014805 then (spec_l04Polys.l0 k1 a1 (x5_1 ++ [t211]) a0_0 t195 (wrap64 (x8_1 + 1)) a0_0 l0_1) else (none))))) else (none)) else (none)) else (if x5_1.length < 5864062014805 then (spec_l04Polys.l0 k1 a1 (x5_1 ++ [t205]) a0_0 t195 (wrap64 (x8_1 + 1)) a0_0 l0_1) else (none))))))))) = some r := H
   have A13 := zA A130
   clear A130
   replace H := Option.bind_eq_some_iff.mp H
   obtain ⟨t196, A140, H⟩ := H
   replace H : ((spec_l04Norm.f k1 a0_0 l0_1 (rd_L1 x5_1 x8_1) 1).bind fun t197 => (if a0_0 = 0 then (none) else ((spec_l01Mod.f a0_0 (wrap64 (-(Int.tmod (wrap64 (t197 * t196)) a0_0)))).bind fun t198 => ((spec_l01Trim.f k1 (([t198, 1] : List Int))).bind fun t202 => ((spec_l01Times.f k1 a0_0 (rd_L1 x5_1 x8_1) t202).bind fun t205 => (if x8_1 > 0 then (if 0 ≤ (wrap64 (x8_1 - 1)) then (if (wrap64 (x8_1 - 1)) < (x5_1.length : Int) then ((spec_l01Inverse.f k1 a0_0 x7_1).bind fun t209 => ((spec_l01Mod.f a0_0 (wrap64 ((wrap64 (-t195)) * t209))).bind fun t210 => ((spec_l01Add.f k1 a0_0 t205 (rd_L1 x5_1 (wrap64 (x8_1 - 1))) t210).bind fun t211 => (if x5_1.length < 5864062014805 then (spec_l04Polys.l0 k1 a1 (x5_1 ++ [t211]) a0_0 t195 (wrap64 (x8_1 + 1)) a0_0 l0_1) else (none))))) else (none)) else (none)) else (if x5_1.length < 5864062014805 then (spec_l04Polys.l0 k1 a1 (x5_1 ++ [t205]) a0_0 t195 (wrap64 (x8_1 + 1)) a0_0 l0_1) else (none)))))))) = some r := H
   have A14 := zA A140
   clear A140
   replace H := Option.bind_eq_some_iff.mp H
   obtain ⟨t197, A150, H⟩ := H
   replace H : (if a0_0 = 0 then (none) else ((spec_l01Mod.f a0_0 (wrap64 (-(Int.tmod (wrap64 (t197 * t196)) a0_0)))).bind fun t198 => ((spec_l01Trim.f k1 (([t198, 1] : List Int))).bind fun t202 => ((spec_l01Times.f k1 a0_0 (rd_L1 x5_1 x8_1) t202).bind fun t205 => (if x8_1 > 0 then (if 0 ≤ (wrap64 (x8_1 - 1)) then (if (wrap64 (x8_1 - 1)) < (x5_1.length : Int) then ((spec_l01Inverse.f k1 a0_0 x7_1).bind fun t209 => ((spec_l01Mod.f a0_0 (wrap64 ((wrap64 (-t195)) * t209))).bind fun t210 => ((spec_l01Add.f k1 a0_0 t205 (rd_L1 x5_1 (wrap64 (x8_1 - 1))) t210).bind fun t211 => (if x5_1.length < 5864062014805 then (spec_l04Polys.l0 k1 a1 (x5_1 ++ [t211]) a0_0 t195 (wrap64 (x8_1 + 1)) a0_0 l0_1) else (none))))) else (none)) else (none)) else (if x5_1.length < 5864062014805 then (spec_l04Polys.l0 k1 a1 (x5_1 ++ [t205]) a0_0 t195 (wrap64 (x8_1 + 1)) a0_0 l0_1) else (none))))))) = some r := H
   have A15 := zA A150
   clear A150
   by_cases c16 : a0_0 = 0
   rotate_left
   ·rw [if_neg c16] at H
    have c16b0 : (a0_0 == 0) = false := beq_eq_false_iff_ne.mpr c16
    have c16b1 : (a0_0 != 0) = true := bne_iff_ne.mpr c16
    replace H := Option.bind_eq_some_iff.mp H
    obtain ⟨t198, A170, H⟩ := H
    replace H : ((spec_l01Trim.f k1 (([t198, 1] : List Int))).bind fun t202 => ((spec_l01Times.f k1 a0_0 (rd_L1 x5_1 x8_1) t202).bind fun t205 => (if x8_1 > 0 then (if 0 ≤ (wrap64 (x8_1 - 1)) then (if (wrap64 (x8_1 - 1)) < (x5_1.length : Int) then ((spec_l01Inverse.f k1 a0_0 x7_1).bind fun t209 => ((spec_l01Mod.f a0_0 (wrap64 ((wrap64 (-t195)) * t209))).bind fun t210 => ((spec_l01Add.f k1 a0_0 t205 (rd_L1 x5_1 (wrap64 (x8_1 - 1))) t210).bind fun t211 => (if x5_1.length < 5864062014805 then (spec_l04Polys.l0 k1 a1 (x5_1 ++ [t211]) a0_0 t195 (wrap64 (x8_1 + 1)) a0_0 l0_1) else (none))))) else (none)) else (none)) else (if x5_1.length < 5864062014805 then (spec_l04Polys.l0 k1 a1 (x5_1 ++ [t205]) a0_0 t195 (wrap64 (x8_1 + 1)) a0_0 l0_1) else (none))))) = some r := H
    have A17 := zA A170
    clear A170
    obtain ⟨y199, hy199⟩ : ∃ y_ : List Int, y_ = (([t198, 1] : List Int)) := ⟨_, rfl⟩
    replace H : ((spec_l01Trim.f k1 y199).bind fun t202 => ((spec_l01Times.f k1 a0_0 (rd_L1 x5_1 x8_1) t202).bind fun t205 => (if x8_1 > 0 then (if 0 ≤ (wrap64 (x8_1 - 1)) then (if (wrap64 (x8_1 - 1)) < (x5_1.length : Int) then ((spec_l01Inverse.f k1 a0_0 x7_1).bind fun t209 => ((spec_l01Mod.f a0_0 (wrap64 ((wrap64 (-t195)) * t209))).bind fun t210 => ((spec_l01Add.f k1 a0_0 t205 (rd_L1 x5_1 (wrap64 (x8_1 - 1))) t210).bind fun t211 => (if x5_1.length < 5864062014805 then (spec_l04Polys.l0 k1 a1 (x5_1 ++ [t211]) a0_0 t195 (wrap64 (x8_1 + 1)) a0_0 l0_1) else (none))))) else (none)) else (none)) else (if x5_1.length < 5864062014805 then (spec_l04Polys.l0 k1 a1 (x5_1 ++ [t205]) a0_0 t195 (wrap64 (x8_1 + 1)) a0_0 l0_1) else (none))))) = some r := by first | (rw [hy199]; exact H) | exact H
    have Ny199 := zA hy199
    clear hy199
    replace H := Option.bind_eq_some_iff.mp H
    obtain ⟨t202, A180, H⟩ := H
    replace H : ((spec_l01Times.f k1 a0_0 (rd_L1 x5_1 x8_1) t202).bind fun t205 => (if x8_1 > 0 then (if 0 ≤ (wrap64 (x8_1 - 1)) then (if (wrap64 (x8_1 - 1)) < (x5_1.length : Int) then ((spec_l01Inverse.f k1 a0_0 x7_1).bind fun t209 => ((spec_l01Mod.f a0_0 (wrap64 ((wrap64 (-t195)) * t209))).bind fun t210 => ((spec_l01Add.f k1 a0_0 t205 (rd_L1 x5_1 (wrap64 (x8_1 - 1))) t210).bind fun t211 => (if x5_1.length < 5864062014805 then (spec_l04Polys.l0 k1 a1 (x5_1 ++ [t211]) a0_0 t195 (wrap64 (x8_1 + 1)) a0_0 l0_1) else (none))))) else (none)) else (none)) else (if x5_1.length < 5864062014805 then (spec_l04Polys.l0 k1 a1 (x5_1 ++ [t205]) a0_0 t195 (wrap64 (x8_1 + 1)) a0_0 l0_1) else (none)))) = some r := H
    have A18 := zA A180
    clear A180
    replace H := Option.bind_eq_some_iff.mp H
    obtain ⟨t205, A190, H⟩ := H
    replace H : (if x8_1 > 0 then (if 0 ≤ (wrap64 (x8_1 - 1)) then (if (wrap64 (x8_1 - 1)) < (x5_1.length : Int) then ((spec_l01Inverse.f k1 a0_0 x7_1).bind fun t209 => ((spec_l01Mod.f a0_0 (wrap64 ((wrap64 (-t195)) * t209))).bind fun t210 => ((spec_l01Add.f k1 a0_0 t205 (rd_L1 x5_1 (wrap64 (x8_1 - 1))) t210).bind fun t211 => (if x5_1.length < 5864062014805 then (spec_l04Polys.l0 k1 a1 (x5_1 ++ [t211]) a0_0 t195 (wrap64 (x8_1 + 1)) a0_0 l0_1) else (none))))) else (none)) else (none)) else (if x5_1.length < 5864062014805 then (spec_l04Polys.l0 k1 a1 (x5_1 ++ [t205]) a0_0 t195 (wrap64 (x8_1 + 1)) a0_0 l0_1) else (none))) = some r := H
    have A19 := zA A190
    clear A190
    by_cases c20 : x8_1 > 0
    rotate_left
    ·rw [if_neg c20] at H
     have c20b0 : decide (0 < x8_1) = false := decide_eq_false c20
     clear c20
     by_cases c44 : x5_1.length < 5864062014805
     rotate_left
     ·rw [if_neg c44] at H
      exact absurd H (by simp)
     rw [if_pos c44] at H
     have LMc44 := zA c44
     clear c44
     obtain ⟨y217, hy217⟩ : ∃ y_ : List (List Int), y_ = (x5_1 ++ [t205]) := ⟨_, rfl⟩
     replace H : (spec_l04Polys.l0 k1 a1 y217 a0_0 t195 (wrap64 (x8_1 + 1)) a0_0 l0_1) = some r := by first | (rw [hy217]; exact H) | exact H
     have Ny217 := zA hy217
     clear hy217
     have H' := zA H
     clear H
     obtain ⟨Ao45, co45, eo45⟩ := Kd.N_slice HO_5.out
     subst eo45
     have p194 : 0 ≤ (x8_1 : Int) := of_decide_eq_true (by first | (with_reducible assumption) | assumption)
     have q194 : x8_1 < (x5_1.length : Int) := of_decide_eq_true (by first | (with_reducible assumption) | assumption)
     obtain ⟨ad194, A194_0, c194_0, e194, hx194_0, hl194_0, hi194_0⟩ := at_L1 (Kd.N_reads' HO_5.out).2.2 x8_1 p194 q194
     cases e194
     obtain ⟨ce194, hce194, hMe194, hcc194⟩ := Kd.N_get HO_5.out [] x8_1 p194 (by first | exact q194 | exact of_decide_eq_true (by first | (with_reducible assumption) | assumption) | (have e_ := (Kd.N_reads' HO_5.out).1; omega))
     obtain ⟨ua194_0, uc194_0, rfl, ul194_0, ge194_0⟩ := Kd.FK_slice_open hMe194
     have hv194_0 := hcc194 0 _ rfl
     rw [Nat.add_zero, show ((Kd.slice 2 (Kd.int .i64))).sz = 1 from rfl, Nat.mul_one] at hv194_0
     replace hv194_0 := Option.some.inj (hv194_0.symm.trans hx194_0)
     injection hv194_0 with hva_ hvn_ hvc_
     rw [hva_] at ge194_0
     rw [hvc_] at ul194_0
     have HL194_0 := zA (show Kd.V (Kd.int .i64) 2 _ w.heap.size _ _ (rd_L1 x5_1 x8_1) from Kd.V_mk ul194_0 ge194_0)
     clear hva_ hvn_ hvc_ ge194_0 ul194_0
     clear hcc194 hce194
     have HR194_0 := zA hi194_0
     have HC194_0 := zA hl194_0
     clear hi194_0 hl194_0
     replace p194 := eq_true p194
     replace q194 := eq_true q194
     have hcz46_0 := bc BK187 0
     have hcz46_1 := bc BK187 1
     have hfz46_0 := bf BK187 0
     have hfz46_1 := bf BK187 1
     go_wp2_with (first | ((with_reducible refine gate_callee (f := 84) rfl ?_); refine gL (some 29) Try.func84 #[.agg #[.int .i64 a0_0, .slice A0_1 l0_1.length c0_1], .slice A194_0 (rd_L1 x5_1 x8_1).length c194_0, .int .i64 0] ?_; (with_reducible refine (spec_l04Norm.calls k1 a0_0 _ _ l0_1 _ _ (rd_L1 x5_1 x8_1) 0 t195 _ ?side1 ?side2 ?side3 ?side4 A13.out).mono ?_); (case side1 => exact uC ((Kd.C_below HR0_1.out HB.out))); (case side2 => exact HC0_1.out); (case side3 => repeat (first | exact (by repeat (first | (with_reducible exact HR194_0.out) | (with_reducible refine Kd.C_alloc ?_ _) | (with_reducible refine Kd.C_drewN ?_ _) | (with_reducible refine Kd.C_drew ?_) | exact HR194_0.out)) | (with_reducible refine Kd.C_alloc ?_ _) | (with_reducible refine Kd.C_drewN ?_ _) | (with_reducible refine Kd.C_drew ?_))); (case side4 => exact HC194_0.out); rintro e w47 ⟨rfl, hb⟩; refine ⟨_, rfl, ?_⟩; replace HO_5 := zA (Kd.N_below (by (with_reducible repeat (first | apply Kd.N_alloc | apply Kd.N_drewN | apply Kd.N_drew)); exact HO_5.out) hb); replace HL194_0 := zA (Kd.V_below (by (with_reducible repeat (first | apply Kd.V_alloc | apply Kd.V_drewN | apply Kd.V_drew)); exact HL194_0.out) hb); replace BK187 := xB BK187 hb; replace HR194_0 := zA (Kd.C_below (by repeat (first | (with_reducible exact HR194_0.out) | (with_reducible refine Kd.C_alloc ?_ _) | (with_reducible refine Kd.C_drewN ?_ _) | (with_reducible refine Kd.C_drew ?_) | exact HR194_0.out)) hb); replace HB := xH HB hb; (try clear hb); (try clear hb2); (try clear hk); (try clear hi)) | ((with_reducible refine gate_callee (f := 66) rfl ?_); refine gL (some 32) Try.func66 #[.int .i64 a0_0, .int .i64 t195] ?_; (with_reducible refine (spec_l01Inverse.calls k1 a0_0 t195 t196 _ A14.out).mono ?_); rintro e w' ⟨rfl, ⟨nd, rfl⟩⟩; refine ⟨_, rfl, ?_⟩; have hcz48_0 := bc BK187 0; have hcz48_1 := bc BK187 1; have hfz48_0 := bf BK187 0; have hfz48_1 := bf BK187 1) | ((with_reducible refine gate_callee (f := 84) rfl ?_); refine gL (some 35) Try.func84 #[.agg #[.int .i64 a0_0, .slice A0_1 l0_1.length c0_1], .slice A194_0 (rd_L1 x5_1 x8_1).length c194_0, .int .i64 1] ?_; (with_reducible refine (spec_l04Norm.calls k1 a0_0 _ _ l0_1 _ _ (rd_L1 x5_1 x8_1) 1 t197 _ ?side1 ?side2 ?side3 ?side4 A15.out).mono ?_); (case side1 => repeat (first | exact (Kd.C_below HR0_1.out (uH HB.out)) | (with_reducible refine Kd.C_alloc ?_ _) | (with_reducible refine Kd.C_drewN ?_ _) | (with_reducible refine Kd.C_drew ?_))); (case side2 => exact HC0_1.out); (case side3 => repeat (first | exact (by repeat (first | (with_reducible exact HR194_0.out) | (with_reducible refine Kd.C_alloc ?_ _) | (with_reducible refine Kd.C_drewN ?_ _) | (with_reducible refine Kd.C_drew ?_) | exact HR194_0.out)) | (with_reducible refine Kd.C_alloc ?_ _) | (with_reducible refine Kd.C_drewN ?_ _) | (with_reducible refine Kd.C_drew ?_))); (case side4 => exact HC194_0.out); rintro e w49 ⟨rfl, hb⟩; refine ⟨_, rfl, ?_⟩; replace HO_5 := zA (Kd.N_below (by (with_reducible repeat (first | apply Kd.N_alloc | apply Kd.N_drewN | apply Kd.N_drew)); exact HO_5.out) hb); replace HL194_0 := zA (Kd.V_below (by (with_reducible repeat (first | apply Kd.V_alloc | apply Kd.V_drewN | apply Kd.V_drew)); exact HL194_0.out) hb); replace BK187 := xB BK187 hb; replace HR194_0 := zA (Kd.C_below (by repeat (first | (with_reducible exact HR194_0.out) | (with_reducible refine Kd.C_alloc ?_ _) | (with_reducible refine Kd.C_drewN ?_ _) | (with_reducible refine Kd.C_drew ?_) | exact HR194_0.out)) hb); replace HB := xH HB hb; (try clear hb); (try clear hb2); (try clear hk); (try clear hi)) | ((with_reducible refine gate_callee (f := 102) rfl ?_); refine gL (some 45) Try.func102 #[.int .i64 a0_0, .int .i64 (wrap64 (-(Int.tmod (wrap64 (t197 * t196)) a0_0)))] ?_; (with_reducible refine (spec_l01Mod.calls a0_0 (wrap64 (-(Int.tmod (wrap64 (t197 * t196)) a0_0))) t198 _ A17.out).mono ?_); rintro e w' ⟨rfl, ⟨nd, rfl⟩⟩; refine ⟨_, rfl, ?_⟩) | ((with_reducible refine gate_dst (N := 46) rfl ?_); refine Kd.R_lit (Kd.int .i64) _ 2 ?hg (N := 46) ?hd (xs := ([t198, 1] : List Int)) (inner := [.int .i64 t198, .int .i64 1]) (ok := fun _ => True) (okp := fun _ => True) ?hr ?hp (fun _ hk => hk) trivial (Below.refl _ _) (Nat.le_refl _) (by simp) ?_; (case hd => rfl); (case hg => rfl); (case hr => first | (go_simp; done) | (go_simp; rfl)); (case hp => exact (Reps.one (show Kd.M (Kd.int .i64) _ _ _ t198 [.int .i64 t198] from rfl) (Reps.one (show Kd.M (Kd.int .i64) _ _ _ 1 [.int .i64 1] from rfl) (Reps.none _ _)))); intro v200 w50 ho51 hb hg_ hnew_; clear hg_ hnew_; (first | rw [← Ny199.out] at ho51 | (simp only [Int.reduceToNat] at ho51; rw [← Ny199.out] at ho51)); replace HO_5 := zA (Kd.N_elder' (by (with_reducible repeat (first | apply Kd.N_alloc | apply Kd.N_drewN | apply Kd.N_drew)); exact HO_5.out) (Kd.R_base ho51) hb); replace HL194_0 := zA (Kd.V_elder' (by (with_reducible repeat (first | apply Kd.V_alloc | apply Kd.V_drewN | apply Kd.V_drew)); exact HL194_0.out) (Kd.R_base ho51) hb); have HO201 := zA (Kd.R_lower (Kd.R_newM (M := fun k_ => (w.heap.size ≤ k_)) ho51 (below_size (uH HB.out)) (fun k_ h_ => h_)) (below_size (uH HB.out))); replace BK187 := xB BK187 hb; replace HR194_0 := zA (Kd.C_below (by repeat (first | (with_reducible exact HR194_0.out) | (with_reducible refine Kd.C_alloc ?_ _) | (with_reducible refine Kd.C_drewN ?_ _) | (with_reducible refine Kd.C_drew ?_) | exact HR194_0.out)) hb); replace HB := xH HB hb; clear hb ho51; obtain ⟨Ao52, co52, eo52⟩ := Kd.R_slice HO201.out; subst eo52) | ((with_reducible refine gate_callee (f := 135) rfl ?_); refine gL (some 47) Try.func135 #[.slice Ao52 y199.length co52] ?_; (with_reducible refine (spec_l01Trim.calls k1 _ _ y199 t202 _ ?side1 ?side2 A18.out).mono ?_); (case side1 => exact uC ((Kd.R_reads' HO201.out).2.2)); (case side2 => exact (Kd.R_reads' HO201.out).2.1); rintro e w53 ⟨v203, rfl, ho0, hb⟩; refine ⟨_, rfl, ?_⟩; replace HO_5 := zA (Kd.N_elder' (by (with_reducible repeat (first | apply Kd.N_alloc | apply Kd.N_drewN | apply Kd.N_drew)); exact HO_5.out) (Kd.R_base ho0) hb); replace HL194_0 := zA (Kd.V_elder' (by (with_reducible repeat (first | apply Kd.V_alloc | apply Kd.V_drewN | apply Kd.V_drew)); exact HL194_0.out) (Kd.R_base ho0) hb); have HO204 := zA (Kd.R_lower (Kd.R_new' (Kd.R_newM (M := fun k_ => (w.heap.size ≤ k_)) ho0 (below_size (uH HB.out)) (fun k_ h_ => h_)) (Kd.R_lt (uR HO201.out))) (below_size (uH HB.out))); replace HO201 := zA (Kd.R_elder' (uR HO201.out) (Kd.R_base ho0) hb); replace BK187 := xB BK187 hb; replace HR194_0 := zA (Kd.C_below (by repeat (first | (with_reducible exact HR194_0.out) | (with_reducible refine Kd.C_alloc ?_ _) | (with_reducible refine Kd.C_drewN ?_ _) | (with_reducible refine Kd.C_drew ?_) | exact HR194_0.out)) hb); replace HB := xH HB hb; (try clear hb); (try clear hb2); (try clear hk); (try clear hi); (try clear ho0); obtain ⟨Ao54, co54, eo54⟩ := Kd.R_slice HO204.out; subst eo54) | ((with_reducible refine gate_callee (f := 113) rfl ?_); refine gL (some 48) Try.func113 #[.int .i64 a0_0, .slice A194_0 (rd_L1 x5_1 x8_1).length c194_0, .slice Ao54 t202.length co54] ?_; (with_reducible refine (spec_l01Times.calls k1 a0_0 _ _ (rd_L1 x5_1 x8_1) _ _ t202 t205 _ ?side1 ?side2 ?side3 ?side4 A19.out).mono ?_); (case side1 => repeat (first | exact (by repeat (first | (with_reducible exact HR194_0.out) | (with_reducible refine Kd.C_alloc ?_ _) | (with_reducible refine Kd.C_drewN ?_ _) | (with_reducible refine Kd.C_drew ?_) | exact HR194_0.out)) | (with_reducible refine Kd.C_alloc ?_ _) | (with_reducible refine Kd.C_drewN ?_ _) | (with_reducible refine Kd.C_drew ?_))); (case side2 => exact HC194_0.out); (case side3 => exact uC ((Kd.R_reads' HO204.out).2.2)); (case side4 => exact (Kd.R_reads' HO204.out).2.1); rintro e w55 ⟨v206, rfl, ho0, hb⟩; refine ⟨_, rfl, ?_⟩; replace HO_5 := zA (Kd.N_elder' (by (with_reducible repeat (first | apply Kd.N_alloc | apply Kd.N_drewN | apply Kd.N_drew)); exact HO_5.out) (Kd.R_base ho0) hb); replace HL194_0 := zA (Kd.V_elder' (by (with_reducible repeat (first | apply Kd.V_alloc | apply Kd.V_drewN | apply Kd.V_drew)); exact HL194_0.out) (Kd.R_base ho0) hb); have HO207 := zA (Kd.R_lower (Kd.R_new' (Kd.R_new' (Kd.R_newM (M := fun k_ => (w.heap.size ≤ k_)) ho0 (below_size (uH HB.out)) (fun k_ h_ => h_)) (Kd.R_lt (uR HO201.out))) (Kd.R_lt (uR HO204.out))) (below_size (uH HB.out))); replace HO201 := zA (Kd.R_elder' (uR HO201.out) (Kd.R_base ho0) hb); replace HO204 := zA (Kd.R_elder' (uR HO204.out) (Kd.R_base ho0) hb); replace BK187 := xB BK187 hb; replace HR194_0 := zA (Kd.C_below (by repeat (first | (with_reducible exact HR194_0.out) | (with_reducible refine Kd.C_alloc ?_ _) | (with_reducible refine Kd.C_drewN ?_ _) | (with_reducible refine Kd.C_drew ?_) | exact HR194_0.out)) hb); replace HB := xH HB hb; (try clear hb); (try clear hb2); (try clear hk); (try clear hi); (try clear ho0); obtain ⟨Ao57, co57, eo57⟩ := Kd.R_slice HO207.out; subst eo57) | ((with_reducible refine gate_builtin (b := .append) (xs := #[.tmp 67, .tmp 69]) rfl ?_); at_builtin; refine Kd.N_append (Kd.slice 2 (Kd.int .i64)) (w0 := w) w.heap.size rfl (.tmp 67) (.tmp 69) 87 22 (.slice none 0 0) 24 rfl Try.underlying87 info22 rfl (by decide) (by omega) (.slice (some ad194) x5_1.length co45) x5_1 t205 [.slice Ao57 t205.length co57] (fun k_ => (w.heap.size ≤ k_) ∧ ax k_ (.slice Ao52 y199.length co52) ∧ ax k_ (.slice Ao54 t202.length co54) ∧ k_ ≠ gb187) (fun k_ => ((fun k_ => (w.heap.size ≤ k_) ∧ ax k_ (.slice Ao52 y199.length co52) ∧ ax k_ (.slice Ao54 t202.length co54) ∧ k_ ≠ gb187)) k_ ∧ ax k_ (.slice (some ad194) x5_1.length co45)) rfl rfl ?aP (fun _ hk => hk) ?aF ?aO ?aB ?aS ?aL ?_; (case aP => exact (Kd.FK_slice_mk (Kd.R_reads' (Kd.R_mono (ok' := (fun k_ => ((fun k_ => (w.heap.size ≤ k_) ∧ ax k_ (.slice Ao52 y199.length co52) ∧ ax k_ (.slice Ao54 t202.length co54) ∧ k_ ≠ gb187)) k_ ∧ ax k_ (.slice (some ad194) x5_1.length co45))) (Kd.R_types (Kd.R_apart' (HO207.out) (Kd.N_typed HO_5.out) (by decide)) BK187.out (by decide)) (fun k_ hk => ⟨⟨hk.1.1.1.1.1, ⟨hk.1.1.1.2, ⟨hk.1.1.2, hk.2⟩⟩⟩, hk.1.2⟩))).2.1 (Kd.R_F (Kd.R_mono (ok' := (fun k_ => ((fun k_ => (w.heap.size ≤ k_) ∧ ax k_ (.slice Ao52 y199.length co52) ∧ ax k_ (.slice Ao54 t202.length co54) ∧ k_ ≠ gb187)) k_ ∧ ax k_ (.slice (some ad194) x5_1.length co45))) (Kd.R_types (Kd.R_apart' (HO207.out) (Kd.N_typed HO_5.out) (by decide)) BK187.out (by decide)) (fun k_ hk => ⟨⟨hk.1.1.1.1.1, ⟨hk.1.1.1.2, ⟨hk.1.1.2, hk.2⟩⟩⟩, hk.1.2⟩))))); (case aB => exact (uH HB.out)); (case aF => exact (fun k_ hk => ⟨(Nat.le_trans (below_size (uH HB.out)) hk), Kd.fresh' (Kd.R_lt (uR HO201.out)) k_ hk, Kd.fresh' (Kd.R_lt (uR HO204.out)) k_ hk, Kd.freshB (g := gb187) (o := .cells #[.int .i64 a0_0, .slice A0_1 l0_1.length c0_1] 40 (0, 0)) (uB BK187.out) k_ hk⟩)); (case aO => exact (by (with_reducible repeat (first | apply Kd.N_alloc | apply Kd.N_drewN | apply Kd.N_drew)); exact Kd.N_mono HO_5.out (fun _ hk => ⟨hk.1.1.1.1, ⟨hk.1.1.2, ⟨hk.1.2, hk.1.1.1.2⟩⟩⟩))); (case aS => exact (below_size (uH HB.out))); (case aL => have := LMc44.out; omega); intro v218 w56 ho hb hg hat; rw [← Ny217.out] at ho; replace BK187 := zA (blk_grown (g := gb187) (o := .cells #[.int .i64 a0_0, .slice A0_1 l0_1.length c0_1] 40 (0, 0)) (uB BK187.out) hg (Kd.N_ne HO_5.out BK187.out (by decide))); replace HL194_0 := zA (Kd.V_afterv (ok := (fun k_ => (w.heap.size ≤ k_) ∧ ax k_ (.slice Ao52 y199.length co52) ∧ ax k_ (.slice Ao54 t202.length co54) ∧ ax k_ (.slice Ao57 t205.length co57) ∧ k_ ≠ gb187)) (by (with_reducible repeat (first | apply Kd.V_alloc | apply Kd.V_drewN | apply Kd.V_drew)); exact Kd.V_mono HL194_0.out (fun _ hk => ⟨⟨hk.1.1.1.1.1, ⟨hk.1.1.2, ⟨hk.1.2, ⟨hk.2, hk.1.1.1.1.2⟩⟩⟩⟩, hk.1.1.1.2⟩)) hg hat); replace HO201 := zA (Kd.R_over' (uR HO201.out) (Kd.N_typed (by (with_reducible repeat (first | apply Kd.N_alloc | apply Kd.N_drewN | apply Kd.N_drew)); exact HO_5.out)) (by decide) hg); replace HO204 := zA (Kd.R_over' (uR HO204.out) (Kd.N_typed (by (with_reducible repeat (first | apply Kd.N_alloc | apply Kd.N_drewN | apply Kd.N_drew)); exact HO_5.out)) (by decide) hg); replace HB := zA (hb); have HO219 := zA (ho); clear HO_5 HO207 ho hb hg hat))
     go_roundg k1
     case measure => have := HK1.out; omega
     case rel => exact ⟨(y217), (t195), (wrap64 (x8_1 + 1)), (by first | rfl | (simp; done) | (simp [*]; done)), (by first | rfl | (simp; done) | (simp [*]; done)), H', ⟨by have := HK1.out; omega⟩, ⟨by (with_reducible repeat (first | apply Kd.N_alloc | apply Kd.N_drewN | apply Kd.N_drew)); exact Kd.N_mono HO219.out (fun _ hk => ⟨hk.1, hk.2.2.2⟩)⟩, ⟨uB BK187.out⟩, ⟨uH HB.out⟩⟩
    rw [if_pos c20] at H
    have c20b0 : decide (0 < x8_1) = true := decide_eq_true c20
    clear c20
    obtain ⟨ji21, hji21⟩ : ∃ j_ : Int, (wrap64 (x8_1 - 1)) = j_ := ⟨_, rfl⟩
    replace H : (if 0 ≤ (ji21) then (if (ji21) < (x5_1.length : Int) then ((spec_l01Inverse.f k1 a0_0 x7_1).bind fun t209 => ((spec_l01Mod.f a0_0 (wrap64 ((wrap64 (-t195)) * t209))).bind fun t210 => ((spec_l01Add.f k1 a0_0 t205 (rd_L1 x5_1 (ji21)) t210).bind fun t211 => (if x5_1.length < 5864062014805 then (spec_l04Polys.l0 k1 a1 (x5_1 ++ [t211]) a0_0 t195 (wrap64 (x8_1 + 1)) a0_0 l0_1) else (none))))) else (none)) else (none)) = some r := by first | (rw [hji21] at H; exact H) | (simp only [hji21] at H ⊢; exact H)
    (try rw [hji21] at A13)
    (try rw [hji21] at A14)
    (try rw [hji21] at A15)
    (try rw [hji21] at A17)
    (try rw [hji21] at A18)
    (try rw [hji21] at A19)
    have hji21w : (IntKind.i64.wrap (x8_1 - 1)) = ji21 := (i64_w _).trans hji21
    by_cases c22 : 0 ≤ (ji21)
    rotate_left
    ·rw [if_neg c22] at H
     exact absurd H (by simp)
    rw [if_pos c22] at H
    have c22b0 : decide (0 ≤ (ji21)) = true := decide_eq_true c22
    clear c22
    by_cases c23 : (ji21) < (x5_1.length : Int)
    rotate_left
    ·rw [if_neg c23] at H
     exact absurd H (by simp)
    rw [if_pos c23] at H
    have c23b0 : decide ((ji21) < (x5_1.length : Int)) = true := decide_eq_true c23
    clear c23
    replace H := Option.bind_eq_some_iff.mp H
    obtain ⟨t209, A240, H⟩ := H
    replace H : ((spec_l01Mod.f a0_0 (wrap64 ((wrap64 (-t195)) * t209))).bind fun t210 => ((spec_l01Add.f k1 a0_0 t205 (rd_L1 x5_1 (ji21)) t210).bind fun t211 => (if x5_1.length < 5864062014805 then (spec_l04Polys.l0 k1 a1 (x5_1 ++ [t211]) a0_0 t195 (wrap64 (x8_1 + 1)) a0_0 l0_1) else (none)))) = some r := H
    have A24 := zA A240
    clear A240
    replace H := Option.bind_eq_some_iff.mp H
    obtain ⟨t210, A250, H⟩ := H
    replace H : ((spec_l01Add.f k1 a0_0 t205 (rd_L1 x5_1 (ji21)) t210).bind fun t211 => (if x5_1.length < 5864062014805 then (spec_l04Polys.l0 k1 a1 (x5_1 ++ [t211]) a0_0 t195 (wrap64 (x8_1 + 1)) a0_0 l0_1) else (none))) = some r := H
    have A25 := zA A250
    clear A250
    replace H := Option.bind_eq_some_iff.mp H
    obtain ⟨t211, A260, H⟩ := H
    replace H : (if x5_1.length < 5864062014805 then (spec_l04Polys.l0 k1 a1 (x5_1 ++ [t211]) a0_0 t195 (wrap64 (x8_1 + 1)) a0_0 l0_1) else (none)) = some r := H
    have A26 := zA A260
    clear A260
    by_cases c27 : x5_1.length < 5864062014805
    rotate_left
    ·rw [if_neg c27] at H
     exact absurd H (by simp)
    rw [if_pos c27] at H
    have LMc27 := zA c27
    clear c27
    obtain ⟨y214, hy214⟩ : ∃ y_ : List (List Int), y_ = (x5_1 ++ [t211]) := ⟨_, rfl⟩
    replace H : (spec_l04Polys.l0 k1 a1 y214 a0_0 t195 (wrap64 (x8_1 + 1)) a0_0 l0_1) = some r := by first | (rw [hy214]; exact H) | exact H
    have Ny214 := zA hy214
    clear hy214
    have H' := zA H
    clear H
    obtain ⟨Ao28, co28, eo28⟩ := Kd.N_slice HO_5.out
    subst eo28
    have p194 : 0 ≤ (x8_1 : Int) := of_decide_eq_true (by first | (with_reducible assumption) | assumption)
    have q194 : x8_1 < (x5_1.length : Int) := of_decide_eq_true (by first | (with_reducible assumption) | assumption)
    obtain ⟨ad194, A194_0, c194_0, e194, hx194_0, hl194_0, hi194_0⟩ := at_L1 (Kd.N_reads' HO_5.out).2.2 x8_1 p194 q194
    cases e194
    obtain ⟨ce194, hce194, hMe194, hcc194⟩ := Kd.N_get HO_5.out [] x8_1 p194 (by first | exact q194 | exact of_decide_eq_true (by first | (with_reducible assumption) | assumption) | (have e_ := (Kd.N_reads' HO_5.out).1; omega))
    obtain ⟨ua194_0, uc194_0, rfl, ul194_0, ge194_0⟩ := Kd.FK_slice_open hMe194
    have hv194_0 := hcc194 0 _ rfl
    rw [Nat.add_zero, show ((Kd.slice 2 (Kd.int .i64))).sz = 1 from rfl, Nat.mul_one] at hv194_0
    replace hv194_0 := Option.some.inj (hv194_0.symm.trans hx194_0)
    injection hv194_0 with hva_ hvn_ hvc_
    rw [hva_] at ge194_0
    rw [hvc_] at ul194_0
    have HL194_0 := zA (show Kd.V (Kd.int .i64) 2 _ w.heap.size _ _ (rd_L1 x5_1 x8_1) from Kd.V_mk ul194_0 ge194_0)
    clear hva_ hvn_ hvc_ ge194_0 ul194_0
    clear hcc194 hce194
    have HR194_0 := zA hi194_0
    have HC194_0 := zA hl194_0
    clear hi194_0 hl194_0
    replace p194 := eq_true p194
    replace q194 := eq_true q194
    have hcz29_0 := bc BK187 0
    have hcz29_1 := bc BK187 1
    have hfz29_0 := bf BK187 0
    have hfz29_1 := bf BK187 1
    try go_wp2_with (first | ((with_reducible refine gate_callee (f := 84) rfl ?_); refine gL (some 29) Try.func84 #[.agg #[.int .i64 a0_0, .slice A0_1 l0_1.length c0_1], .slice A194_0 (rd_L1 x5_1 x8_1).length c194_0, .int .i64 0] ?_; (with_reducible refine (spec_l04Norm.calls k1 a0_0 _ _ l0_1 _ _ (rd_L1 x5_1 x8_1) 0 t195 _ ?side1 ?side2 ?side3 ?side4 A13.out).mono ?_); (case side1 => exact uC ((Kd.C_below HR0_1.out HB.out))); (case side2 => exact HC0_1.out); (case side3 => repeat (first | exact (by repeat (first | (with_reducible exact HR194_0.out) | (with_reducible refine Kd.C_alloc ?_ _) | (with_reducible refine Kd.C_drewN ?_ _) | (with_reducible refine Kd.C_drew ?_) | exact HR194_0.out)) | (with_reducible refine Kd.C_alloc ?_ _) | (with_reducible refine Kd.C_drewN ?_ _) | (with_reducible refine Kd.C_drew ?_))); (case side4 => exact HC194_0.out); rintro e w30 ⟨rfl, hb⟩; refine ⟨_, rfl, ?_⟩; replace HO_5 := zA (Kd.N_below (by (with_reducible repeat (first | apply Kd.N_alloc | apply Kd.N_drewN | apply Kd.N_drew)); exact HO_5.out) hb); replace HL194_0 := zA (Kd.V_below (by (with_reducible repeat (first | apply Kd.V_alloc | apply Kd.V_drewN | apply Kd.V_drew)); exact HL194_0.out) hb); replace BK187 := xB BK187 hb; replace HR194_0 := zA (Kd.C_below (by repeat (first | (with_reducible exact HR194_0.out) | (with_reducible refine Kd.C_alloc ?_ _) | (with_reducible refine Kd.C_drewN ?_ _) | (with_reducible refine Kd.C_drew ?_) | exact HR194_0.out)) hb); replace HB := xH HB hb; (try clear hb); (try clear hb2); (try clear hk); (try clear hi)) | ((with_reducible refine gate_callee (f := 66) rfl ?_); refine gL (some 32) Try.func66 #[.int .i64 a0_0, .int .i64 t195] ?_; (with_reducible refine (spec_l01Inverse.calls k1 a0_0 t195 t196 _ A14.out).mono ?_); rintro e w' ⟨rfl, ⟨nd, rfl⟩⟩; refine ⟨_, rfl, ?_⟩; have hcz31_0 := bc BK187 0; have hcz31_1 := bc BK187 1; have hfz31_0 := bf BK187 0; have hfz31_1 := bf BK187 1) | ((with_reducible refine gate_callee (f := 84) rfl ?_); refine gL (some 35) Try.func84 #[.agg #[.int .i64 a0_0, .slice A0_1 l0_1.length c0_1], .slice A194_0 (rd_L1 x5_1 x8_1).length c194_0, .int .i64 1] ?_; (with_reducible refine (spec_l04Norm.calls k1 a0_0 _ _ l0_1 _ _ (rd_L1 x5_1 x8_1) 1 t197 _ ?side1 ?side2 ?side3 ?side4 A15.out).mono ?_); (case side1 => repeat (first | exact (Kd.C_below HR0_1.out (uH HB.out)) | (with_reducible refine Kd.C_alloc ?_ _) | (with_reducible refine Kd.C_drewN ?_ _) | (with_reducible refine Kd.C_drew ?_))); (case side2 => exact HC0_1.out); (case side3 => repeat (first | exact (by repeat (first | (with_reducible exact HR194_0.out) | (with_reducible refine Kd.C_alloc ?_ _) | (with_reducible refine Kd.C_drewN ?_ _) | (with_reducible refine Kd.C_drew ?_) | exact HR194_0.out)) | (with_reducible refine Kd.C_alloc ?_ _) | (with_reducible refine Kd.C_drewN ?_ _) | (with_reducible refine Kd.C_drew ?_))); (case side4 => exact HC194_0.out); rintro e w32 ⟨rfl, hb⟩; refine ⟨_, rfl, ?_⟩; replace HO_5 := zA (Kd.N_below (by (with_reducible repeat (first | apply Kd.N_alloc | apply Kd.N_drewN | apply Kd.N_drew)); exact HO_5.out) hb); replace HL194_0 := zA (Kd.V_below (by (with_reducible repeat (first | apply Kd.V_alloc | apply Kd.V_drewN | apply Kd.V_drew)); exact HL194_0.out) hb); replace BK187 := xB BK187 hb; replace HR194_0 := zA (Kd.C_below (by repeat (first | (with_reducible exact HR194_0.out) | (with_reducible refine Kd.C_alloc ?_ _) | (with_reducible refine Kd.C_drewN ?_ _) | (with_reducible refine Kd.C_drew ?_) | exact HR194_0.out)) hb); replace HB := xH HB hb; (try clear hb); (try clear hb2); (try clear hk); (try clear hi)) | ((with_reducible refine gate_callee (f := 102) rfl ?_); refine gL (some 45) Try.func102 #[.int .i64 a0_0, .int .i64 (wrap64 (-(Int.tmod (wrap64 (t197 * t196)) a0_0)))] ?_; (with_reducible refine (spec_l01Mod.calls a0_0 (wrap64 (-(Int.tmod (wrap64 (t197 * t196)) a0_0))) t198 _ A17.out).mono ?_); rintro e w' ⟨rfl, ⟨nd, rfl⟩⟩; refine ⟨_, rfl, ?_⟩) | ((with_reducible refine gate_dst (N := 46) rfl ?_); refine Kd.R_lit (Kd.int .i64) _ 2 ?hg (N := 46) ?hd (xs := ([t198, 1] : List Int)) (inner := [.int .i64 t198, .int .i64 1]) (ok := fun _ => True) (okp := fun _ => True) ?hr ?hp (fun _ hk => hk) trivial (Below.refl _ _) (Nat.le_refl _) (by simp) ?_; (case hd => rfl); (case hg => rfl); (case hr => first | (go_simp; done) | (go_simp; rfl)); (case hp => exact (Reps.one (show Kd.M (Kd.int .i64) _ _ _ t198 [.int .i64 t198] from rfl) (Reps.one (show Kd.M (Kd.int .i64) _ _ _ 1 [.int .i64 1] from rfl) (Reps.none _ _)))); intro v200 w33 ho34 hb hg_ hnew_; clear hg_ hnew_; (first | rw [← Ny199.out] at ho34 | (simp only [Int.reduceToNat] at ho34; rw [← Ny199.out] at ho34)); replace HO_5 := zA (Kd.N_elder' (by (with_reducible repeat (first | apply Kd.N_alloc | apply Kd.N_drewN | apply Kd.N_drew)); exact HO_5.out) (Kd.R_base ho34) hb); replace HL194_0 := zA (Kd.V_elder' (by (with_reducible repeat (first | apply Kd.V_alloc | apply Kd.V_drewN | apply Kd.V_drew)); exact HL194_0.out) (Kd.R_base ho34) hb); have HO201 := zA (Kd.R_lower (Kd.R_newM (M := fun k_ => (w.heap.size ≤ k_)) ho34 (below_size (uH HB.out)) (fun k_ h_ => h_)) (below_size (uH HB.out))); replace BK187 := xB BK187 hb; replace HR194_0 := zA (Kd.C_below (by repeat (first | (with_reducible exact HR194_0.out) | (with_reducible refine Kd.C_alloc ?_ _) | (with_reducible refine Kd.C_drewN ?_ _) | (with_reducible refine Kd.C_drew ?_) | exact HR194_0.out)) hb); replace HB := xH HB hb; clear hb ho34; obtain ⟨Ao35, co35, eo35⟩ := Kd.R_slice HO201.out; subst eo35) | ((with_reducible refine gate_callee (f := 135) rfl ?_); refine gL (some 47) Try.func135 #[.slice Ao35 y199.length co35] ?_; (with_reducible refine (spec_l01Trim.calls k1 _ _ y199 t202 _ ?side1 ?side2 A18.out).mono ?_); (case side1 => exact uC ((Kd.R_reads' HO201.out).2.2)); (case side2 => exact (Kd.R_reads' HO201.out).2.1); rintro e w36 ⟨v203, rfl, ho0, hb⟩; refine ⟨_, rfl, ?_⟩; replace HO_5 := zA (Kd.N_elder' (by (with_reducible repeat (first | apply Kd.N_alloc | apply Kd.N_drewN | apply Kd.N_drew)); exact HO_5.out) (Kd.R_base ho0) hb); replace HL194_0 := zA (Kd.V_elder' (by (with_reducible repeat (first | apply Kd.V_alloc | apply Kd.V_drewN | apply Kd.V_drew)); exact HL194_0.out) (Kd.R_base ho0) hb); have HO204 := zA (Kd.R_lower (Kd.R_new' (Kd.R_newM (M := fun k_ => (w.heap.size ≤ k_)) ho0 (below_size (uH HB.out)) (fun k_ h_ => h_)) (Kd.R_lt (uR HO201.out))) (below_size (uH HB.out))); replace HO201 := zA (Kd.R_elder' (uR HO201.out) (Kd.R_base ho0) hb); replace BK187 := xB BK187 hb; replace HR194_0 := zA (Kd.C_below (by repeat (first | (with_reducible exact HR194_0.out) | (with_reducible refine Kd.C_alloc ?_ _) | (with_reducible refine Kd.C_drewN ?_ _) | (with_reducible refine Kd.C_drew ?_) | exact HR194_0.out)) hb); replace HB := xH HB hb; (try clear hb); (try clear hb2); (try clear hk); (try clear hi); (try clear ho0); obtain ⟨Ao37, co37, eo37⟩ := Kd.R_slice HO204.out; subst eo37) | ((with_reducible refine gate_callee (f := 113) rfl ?_); refine gL (some 48) Try.func113 #[.int .i64 a0_0, .slice A194_0 (rd_L1 x5_1 x8_1).length c194_0, .slice Ao37 t202.length co37] ?_; (with_reducible refine (spec_l01Times.calls k1 a0_0 _ _ (rd_L1 x5_1 x8_1) _ _ t202 t205 _ ?side1 ?side2 ?side3 ?side4 A19.out).mono ?_); (case side1 => repeat (first | exact (by repeat (first | (with_reducible exact HR194_0.out) | (with_reducible refine Kd.C_alloc ?_ _) | (with_reducible refine Kd.C_drewN ?_ _) | (with_reducible refine Kd.C_drew ?_) | exact HR194_0.out)) | (with_reducible refine Kd.C_alloc ?_ _) | (with_reducible refine Kd.C_drewN ?_ _) | (with_reducible refine Kd.C_drew ?_))); (case side2 => exact HC194_0.out); (case side3 => exact uC ((Kd.R_reads' HO204.out).2.2)); (case side4 => exact (Kd.R_reads' HO204.out).2.1); rintro e w38 ⟨v206, rfl, ho0, hb⟩; refine ⟨_, rfl, ?_⟩; replace HO_5 := zA (Kd.N_elder' (by (with_reducible repeat (first | apply Kd.N_alloc | apply Kd.N_drewN | apply Kd.N_drew)); exact HO_5.out) (Kd.R_base ho0) hb); replace HL194_0 := zA (Kd.V_elder' (by (with_reducible repeat (first | apply Kd.V_alloc | apply Kd.V_drewN | apply Kd.V_drew)); exact HL194_0.out) (Kd.R_base ho0) hb); have HO207 := zA (Kd.R_lower (Kd.R_new' (Kd.R_new' (Kd.R_newM (M := fun k_ => (w.heap.size ≤ k_)) ho0 (below_size (uH HB.out)) (fun k_ h_ => h_)) (Kd.R_lt (uR HO201.out))) (Kd.R_lt (uR HO204.out))) (below_size (uH HB.out))); replace HO201 := zA (Kd.R_elder' (uR HO201.out) (Kd.R_base ho0) hb); replace HO204 := zA (Kd.R_elder' (uR HO204.out) (Kd.R_base ho0) hb); replace BK187 := xB BK187 hb; replace HR194_0 := zA (Kd.C_below (by repeat (first | (with_reducible exact HR194_0.out) | (with_reducible refine Kd.C_alloc ?_ _) | (with_reducible refine Kd.C_drewN ?_ _) | (with_reducible refine Kd.C_drew ?_) | exact HR194_0.out)) hb); replace HB := xH HB hb; (try clear hb); (try clear hb2); (try clear hk); (try clear hi); (try clear ho0)))
    replace HO_5 := zA (Kd.N_drew HO_5.out)
    replace HL194_0 := zA (Kd.V_drew HL194_0.out)
    replace HO201 := zA (Kd.R_drew HO201.out)
    replace HO204 := zA (Kd.R_drew HO204.out)
    replace HO207 := zA (Kd.R_drew HO207.out)
    replace BK187 := zA (blk_drew BK187.out)
    replace HR194_0 := zA (Kd.C_drew HR194_0.out)
    replace HB := zA (below_drew1 HB.out)
    have p208 : 0 ≤ ((ji21) : Int) := of_decide_eq_true (by first | (with_reducible assumption) | assumption)
    have q208 : (ji21) < (x5_1.length : Int) := of_decide_eq_true (by first | (with_reducible assumption) | assumption)
    obtain ⟨ad208, A208_0, c208_0, e208, hx208_0, hl208_0, hi208_0⟩ := at_L1 (Kd.N_reads' HO_5.out).2.2 (ji21) p208 q208
    obtain rfl : ad194 = ad208 := (by injection e208)
    obtain ⟨ce208, hce208, hMe208, hcc208⟩ := Kd.N_get HO_5.out [] (ji21) p208 (by first | exact q208 | exact of_decide_eq_true (by first | (with_reducible assumption) | assumption) | (have e_ := (Kd.N_reads' HO_5.out).1; omega))
    obtain ⟨ua208_0, uc208_0, rfl, ul208_0, ge208_0⟩ := Kd.FK_slice_open hMe208
    have hv208_0 := hcc208 0 _ rfl
    rw [Nat.add_zero, show ((Kd.slice 2 (Kd.int .i64))).sz = 1 from rfl, Nat.mul_one] at hv208_0
    replace hv208_0 := Option.some.inj (hv208_0.symm.trans hx208_0)
    injection hv208_0 with hva_ hvn_ hvc_
    rw [hva_] at ge208_0
    rw [hvc_] at ul208_0
    have HL208_0 := zA (show Kd.V (Kd.int .i64) 2 _ w.heap.size _ _ (rd_L1 x5_1 (ji21)) from Kd.V_mk ul208_0 ge208_0)
    clear hva_ hvn_ hvc_ ge208_0 ul208_0
    clear hcc208 hce208
    have HR208_0 := zA hi208_0
    have HC208_0 := zA hl208_0
    clear hi208_0 hl208_0
    replace p208 := eq_true p208
    replace q208 := eq_true q208
    refine start_ (n := 17) (S := fun w' => w'.cell? (ad194.add ((ji21)).toNat) = some (.slice A208_0 (rd_L1 x5_1 (ji21)).length c208_0)) (ds := []) #[false, false, false, false, false, false, false, false, false, false, false, false, false, false, false, false, false] (by kernel_rfl) rfl rfl (hx208_0) (fun hHeld => ?_); refine with_tabW spec_l04Polys.tab12 spec_l04Polys.bits12 (fun HT_ HW_ => ?_)
    generalize w38.drew = w39 at HO_5 HL194_0 HO201 HO204 HO207 BK187 HR194_0 HB HL208_0 HR208_0 hx208_0 hHeld ⊢
    refine pu_ 0 51 (bl 17 1) HT_ ?_
    refine pu_ 1 52 (bl 17 3) HT_ ?_
    refine pu_ 2 53 (bl 17 7) HT_ ?_
    refine pu_ 3 54 (bl 17 15) HT_ ?_
    refine pu_ 4 55 (bl 17 31) HT_ ?_
    refine pu_ 5 56 (bl 17 63) HT_ ?_
    refine pu_ 7 58 (bl 17 191) HT_ ?_
    refine pu_ 8 59 (bl 17 447) HT_ ?_
    refine pu_ 9 60 (bl 17 959) HT_ ?_
    refine pu_ 10 61 (bl 17 1983) HT_ ?_
    refine pu_ 11 62 (bl 17 4031) HT_ ?_
    refine take_ (i := 6) (N := some 57) (v := ?_) (a' := ?_) (bl 17 4095) rfl rfl (take_ofW HT_.out HW_.out (by kernel_rfl)) (fun _ _ _ h => h) (Or.inl ⟨by rfl, ?_⟩) hHeld ?_ ?_
    rotate_left
    ·intro w' s0
     go_simp
     with_reducible rfl
    rotate_left
    ·simp only [Act.put, ls, lz, ln, i64_w, i32_w]
     rfl
    refine on_ 12 (some 63) (bl 17 8191) HT_ (fun K hK => ?_)
    refine gS Try.func66 #[.int .i64 a0_0, .int .i64 x7_1] ?_
    with_reducible refine (spec_l01Inverse.calls k1 a0_0 x7_1 t209 _ A24.out).mono ?_
    rintro e w' ⟨rfl, ⟨nd, rfl⟩⟩
    refine ⟨_, rfl, ?_⟩
    refine hK.out _ _ (hHeld) (fun hHeld => ?_)
    clear hK K
    refine no_ 63 ?_
    refine pu_ 13 64 (bl 17 16383) HT_ ?_
    refine on_ 14 (some 65) (bl 17 32767) HT_ (fun K hK => ?_)
    refine gS Try.func102 #[.int .i64 a0_0, .int .i64 (wrap64 ((wrap64 (-t195)) * t209))] ?_
    with_reducible refine (spec_l01Mod.calls a0_0 (wrap64 ((wrap64 (-t195)) * t209)) t210 _ A25.out).mono ?_
    rintro e w' ⟨rfl, ⟨nd, rfl⟩⟩
    refine ⟨_, rfl, ?_⟩
    obtain ⟨Ao40, co40, eo40⟩ := Kd.R_slice HO207.out
    (first | subst eo40 | (injection eo40 with f1_ f2_ f3_; have f4_ := f1_.symm; have f5_ := f3_.symm; clear f1_ f2_ f3_; subst f4_; subst f5_))
    refine hK.out _ _ (hHeld) (fun hHeld => ?_)
    clear hK K
    refine no_ 65 ?_
    refine on_ 15 (some 66) (bl 17 65535) HT_ (fun K hK => ?_)
    refine goes_ Try.func96 (by kernel_rfl) rfl #[.int .i64 a0_0, .slice Ao40 t205.length co40, .slice A208_0 (rd_L1 x5_1 (ji21)).length c208_0, .int .i64 t210] (by rfl) rfl rfl (by (try simp only [la, lb, lc]); first | done | (simp only [hji21]; rfl) | rfl | (simp only [ld, le]; rfl)) ?_
    with_reducible refine (spec_l01Add.calls k1 a0_0 _ _ t205 _ _ (rd_L1 x5_1 (ji21)) t210 t211 _ ?side1 ?side2 ?side3 ?side4 A26.out).mono ?_
    (case side1 => exact uC ((Kd.R_reads' HO207.out).2.2))
    (case side2 => exact (Kd.R_reads' HO207.out).2.1)
    (case side3 => repeat (first | exact (by repeat (first | (with_reducible exact HR208_0.out) | (with_reducible refine Kd.C_alloc ?_ _) | (with_reducible refine Kd.C_drewN ?_ _) | (with_reducible refine Kd.C_drew ?_) | exact HR208_0.out)) | (with_reducible refine Kd.C_alloc ?_ _) | (with_reducible refine Kd.C_drewN ?_ _) | (with_reducible refine Kd.C_drew ?_)))
    (case side4 => exact HC208_0.out)
    rintro e w41 ⟨v212, rfl, ho0, hb⟩
    have HS0_ := (hb.cell (World.block_lt_of_cell? _ _ (hHeld))).trans (hHeld)
    refine ⟨_, rfl, ?_⟩
    replace HO_5 := zA (Kd.N_elder' (by (with_reducible repeat (first | apply Kd.N_alloc | apply Kd.N_drewN | apply Kd.N_drew)); exact HO_5.out) (Kd.R_base ho0) hb)
    replace HL194_0 := zA (Kd.V_elder' (by (with_reducible repeat (first | apply Kd.V_alloc | apply Kd.V_drewN | apply Kd.V_drew)); exact HL194_0.out) (Kd.R_base ho0) hb)
    replace HL208_0 := zA (Kd.V_elder' (by (with_reducible repeat (first | apply Kd.V_alloc | apply Kd.V_drewN | apply Kd.V_drew)); exact HL208_0.out) (Kd.R_base ho0) hb)
    have HO213 := zA (Kd.R_lower (Kd.R_new' (Kd.R_new' (Kd.R_new' (Kd.R_newM (M := fun k_ => (w.heap.size ≤ k_)) ho0 (below_size (uH HB.out)) (fun k_ h_ => h_)) (Kd.R_lt (uR HO201.out))) (Kd.R_lt (uR HO204.out))) (Kd.R_lt (uR HO207.out))) (below_size (uH HB.out)))
    replace HO201 := zA (Kd.R_elder' (uR HO201.out) (Kd.R_base ho0) hb)
    replace HO204 := zA (Kd.R_elder' (uR HO204.out) (Kd.R_base ho0) hb)
    replace HO207 := zA (Kd.R_elder' (uR HO207.out) (Kd.R_base ho0) hb)
    replace BK187 := xB BK187 hb
    replace HR194_0 := zA (Kd.C_below (by repeat (first | (with_reducible exact HR194_0.out) | (with_reducible refine Kd.C_alloc ?_ _) | (with_reducible refine Kd.C_drewN ?_ _) | (with_reducible refine Kd.C_drew ?_) | exact HR194_0.out)) hb)
    replace HR208_0 := zA (Kd.C_below (by repeat (first | (with_reducible exact HR208_0.out) | (with_reducible refine Kd.C_alloc ?_ _) | (with_reducible refine Kd.C_drewN ?_ _) | (with_reducible refine Kd.C_drew ?_) | exact HR208_0.out)) hb)
    replace HB := xH HB hb
    (try clear hb); (try clear hb2); (try clear hk); (try clear hi); (try clear ho0)
    refine hK.out _ _ (HS0_) (fun hHeld => ?_)
    clear hK K
    refine no_ 66 ?_
    refine pu_ 16 13 (bl 17 131071) HT_ ?_
    refine done_ (done_of HT_.out (by kernel_rfl)) ?_
    obtain ⟨Ao43, co43, eo43⟩ := Kd.R_slice HO213.out
    subst eo43
    try go_wp2_with (first | ((with_reducible refine gate_builtin (b := .append) (xs := #[.tmp 67, .tmp 69]) rfl ?_); at_builtin; refine Kd.N_append (Kd.slice 2 (Kd.int .i64)) (w0 := w) w.heap.size rfl (.tmp 67) (.tmp 69) 87 22 (.slice none 0 0) 24 rfl Try.underlying87 info22 rfl (by decide) (by omega) (.slice (some ad194) x5_1.length co28) x5_1 t211 [.slice Ao43 t211.length co43] (fun k_ => (w.heap.size ≤ k_) ∧ ax k_ (.slice Ao35 y199.length co35) ∧ ax k_ (.slice Ao37 t202.length co37) ∧ ax k_ (.slice Ao40 t205.length co40) ∧ k_ ≠ gb187) (fun k_ => ((fun k_ => (w.heap.size ≤ k_) ∧ ax k_ (.slice Ao35 y199.length co35) ∧ ax k_ (.slice Ao37 t202.length co37) ∧ ax k_ (.slice Ao40 t205.length co40) ∧ k_ ≠ gb187)) k_ ∧ ax k_ (.slice (some ad194) x5_1.length co28)) rfl rfl ?aP (fun _ hk => hk) ?aF ?aO ?aB ?aS ?aL ?_; (case aP => exact (Kd.FK_slice_mk (Kd.R_reads' (Kd.R_mono (ok' := (fun k_ => ((fun k_ => (w.heap.size ≤ k_) ∧ ax k_ (.slice Ao35 y199.length co35) ∧ ax k_ (.slice Ao37 t202.length co37) ∧ ax k_ (.slice Ao40 t205.length co40) ∧ k_ ≠ gb187)) k_ ∧ ax k_ (.slice (some ad194) x5_1.length co28))) (Kd.R_types (Kd.R_apart' (HO213.out) (Kd.N_typed HO_5.out) (by decide)) BK187.out (by decide)) (fun k_ hk => ⟨⟨hk.1.1.1.1.1.1, ⟨hk.1.1.1.1.2, ⟨hk.1.1.1.2, ⟨hk.1.1.2, hk.2⟩⟩⟩⟩, hk.1.2⟩))).2.1 (Kd.R_F (Kd.R_mono (ok' := (fun k_ => ((fun k_ => (w.heap.size ≤ k_) ∧ ax k_ (.slice Ao35 y199.length co35) ∧ ax k_ (.slice Ao37 t202.length co37) ∧ ax k_ (.slice Ao40 t205.length co40) ∧ k_ ≠ gb187)) k_ ∧ ax k_ (.slice (some ad194) x5_1.length co28))) (Kd.R_types (Kd.R_apart' (HO213.out) (Kd.N_typed HO_5.out) (by decide)) BK187.out (by decide)) (fun k_ hk => ⟨⟨hk.1.1.1.1.1.1, ⟨hk.1.1.1.1.2, ⟨hk.1.1.1.2, ⟨hk.1.1.2, hk.2⟩⟩⟩⟩, hk.1.2⟩))))); (case aB => exact (uH HB.out)); (case aF => exact (fun k_ hk => ⟨(Nat.le_trans (below_size (uH HB.out)) hk), Kd.fresh' (Kd.R_lt (uR HO201.out)) k_ hk, Kd.fresh' (Kd.R_lt (uR HO204.out)) k_ hk, Kd.fresh' (Kd.R_lt (uR HO207.out)) k_ hk, Kd.freshB (g := gb187) (o := .cells #[.int .i64 a0_0, .slice A0_1 l0_1.length c0_1] 40 (0, 0)) (uB BK187.out) k_ hk⟩)); (case aO => exact (by (with_reducible repeat (first | apply Kd.N_alloc | apply Kd.N_drewN | apply Kd.N_drew)); exact Kd.N_mono HO_5.out (fun _ hk => ⟨hk.1.1.1.1.1, ⟨hk.1.1.1.2, ⟨hk.1.1.2, ⟨hk.1.2, hk.1.1.1.1.2⟩⟩⟩⟩))); (case aS => exact (below_size (uH HB.out))); (case aL => have := LMc27.out; omega); intro v215 w42 ho hb hg hat; rw [← Ny214.out] at ho; replace BK187 := zA (blk_grown (g := gb187) (o := .cells #[.int .i64 a0_0, .slice A0_1 l0_1.length c0_1] 40 (0, 0)) (uB BK187.out) hg (Kd.N_ne HO_5.out BK187.out (by decide))); replace HL194_0 := zA (Kd.V_afterv (ok := (fun k_ => (w.heap.size ≤ k_) ∧ ax k_ (.slice Ao35 y199.length co35) ∧ ax k_ (.slice Ao37 t202.length co37) ∧ ax k_ (.slice Ao40 t205.length co40) ∧ ax k_ (.slice Ao43 t211.length co43) ∧ k_ ≠ gb187)) (by (with_reducible repeat (first | apply Kd.V_alloc | apply Kd.V_drewN | apply Kd.V_drew)); exact Kd.V_mono HL194_0.out (fun _ hk => ⟨⟨hk.1.1.1.1.1.1, ⟨hk.1.1.1.2, ⟨hk.1.1.2, ⟨hk.1.2, ⟨hk.2, hk.1.1.1.1.1.2⟩⟩⟩⟩⟩, hk.1.1.1.1.2⟩)) hg hat); replace HO201 := zA (Kd.R_over' (uR HO201.out) (Kd.N_typed (by (with_reducible repeat (first | apply Kd.N_alloc | apply Kd.N_drewN | apply Kd.N_drew)); exact HO_5.out)) (by decide) hg); replace HO204 := zA (Kd.R_over' (uR HO204.out) (Kd.N_typed (by (with_reducible repeat (first | apply Kd.N_alloc | apply Kd.N_drewN | apply Kd.N_drew)); exact HO_5.out)) (by decide) hg); replace HO207 := zA (Kd.R_over' (uR HO207.out) (Kd.N_typed (by (with_reducible repeat (first | apply Kd.N_alloc | apply Kd.N_drewN | apply Kd.N_drew)); exact HO_5.out)) (by decide) hg); replace HL208_0 := zA (Kd.V_afterv (ok := (fun k_ => (w.heap.size ≤ k_) ∧ ax k_ (.slice Ao35 y199.length co35) ∧ ax k_ (.slice Ao37 t202.length co37) ∧ ax k_ (.slice Ao40 t205.length co40) ∧ ax k_ (.slice Ao43 t211.length co43) ∧ k_ ≠ gb187)) (by (with_reducible repeat (first | apply Kd.V_alloc | apply Kd.V_drewN | apply Kd.V_drew)); exact Kd.V_mono HL208_0.out (fun _ hk => ⟨⟨hk.1.1.1.1.1.1, ⟨hk.1.1.1.1.2, ⟨hk.1.1.1.2, ⟨hk.1.1.2, ⟨hk.2, hk.1.1.1.1.1.2⟩⟩⟩⟩⟩, hk.1.2⟩)) hg hat); replace HB := zA (hb); have HO216 := zA (ho); clear HO_5 HO213 ho hb hg hat))
    go_roundg k1
    case measure => have := HK1.out; omega
    case rel => exact ⟨(y214), (t195), (wrap64 (x8_1 + 1)), (by first | rfl | (simp; done) | (simp [*]; done)), (by first | rfl | (simp; done) | (simp [*]; done)), H', ⟨by have := HK1.out; omega⟩, ⟨by (with_reducible repeat (first | apply Kd.N_alloc | apply Kd.N_drewN | apply Kd.N_drew)); exact Kd.N_mono HO216.out (fun _ hk => ⟨hk.1, hk.2.2.2.2⟩)⟩, ⟨uB BK187.out⟩, ⟨uH HB.out⟩⟩
   rw [if_pos c16] at H
   exact absurd H (by simp)
end Go.Proofs.Ytfbnkebgdmfcfaa.Pr
