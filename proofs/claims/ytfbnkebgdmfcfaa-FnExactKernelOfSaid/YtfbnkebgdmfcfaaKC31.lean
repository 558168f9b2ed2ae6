/- Texts of this session in one: what functions of the program compute, and plain facts of it, under the conditions that each theorem names. -/
import Derived.Test.YtfbnkebgdmfcfaaKFspecl04Polys
import Derived.Test.YtfbnkebgdmfcfaaKC01
import Derived.Test.YtfbnkebgdmfcfaaKC02
import Derived.Test.YtfbnkebgdmfcfaaKC03
import Derived.Test.YtfbnkebgdmfcfaaKC04
import Derived.Test.YtfbnkebgdmfcfaaKC05
import Derived.Test.YtfbnkebgdmfcfaaKC08
import Derived.Test.YtfbnkebgdmfcfaaKC11
namespace Go.Proofs.Ytfbnkebgdmfcfaa.Pr
open Go.RowKit Go.Proofs.YtfbnkebgdmfcfaaW.PrintWords Go.Proofs.YtfbnkebgdmfcfaaW.PrintLast Go.Proofs.YtfbnkebgdmfcfaaW.PrintMore
attribute [local go_sem] max2_int min2_int max_two min_two max_three min_three max_four min_four   -- for this text's walks alone
set_option linter.unusedVariables false
set_option linter.unusedSimpArgs false
/-! ### spec_l04Kernel: function 106 -/
mutual
def spec_l04Kernel.j0 : Nat → Int → Int → Bool → Int → List Int → Option (List Int × Int)
 | 0, _, _, _, _, _ => none
 | k + 1, x1, x2, x17, x801000, x801001 => if x17 = true then (some (([] : List Int), 2)) else ((spec_l02Order.f k x801000 x801001).bind fun t804 => (if t804 < (wrap64 (x1 + 1)) then (some (([] : List Int), 5)) else ((spec_l04Polys.f k x801000 x801001 x1).bind fun t808 => (spec_l04Kernel.l0 k x1 x2 (([] : List Int)) x801000 t808 0 x801000 x801001))))
def spec_l04Kernel.l0 : Nat → Int → Int → List Int → Int → List (List Int) → Int → Int → List Int → Option (List Int × Int)
 | 0, _, _, _, _, _, _, _, _ => none
 | k + 1, x1, x2, x8, x9, x10, x11, x801000, x801001 => if x11 ≤ x1 then (if 0 ≤ x11 then (if x11 < (x10.length : Int) then ((spec_l01At.f k x9 (rd_L1 x10 x11) x2).bind fun t812 => ((spec_l04Norm.f k x801000 x801001 (rd_L1 x10 x11) 0).bind fun t814 => ((spec_l01Inverse.f k x9 t814).bind fun t815 => (if x9 = 0 then (none) else ((spec_l01Add.f k x9 x8 (rd_L1 x10 x11) (Int.tmod (wrap64 (t812 * t815)) x9)).bind fun t817 => (spec_l04Kernel.l0 k x1 x2 t817 x9 x10 (wrap64 (x11 + 1)) x801000 x801001)))))) else (none)) else (none)) else (some (x8, 0))
end
def spec_l04Kernel.f (k : Nat) (a0_0 : Int) (l0_1 : List Int) (a1 : Int) (a2 : Int) : Option (List Int × Int) := (spec_l02Are.f k a0_0 l0_1).bind fun t801 => (if t801 = true then ((spec_l01In.f a1 0 11).bind fun t802 => (if t802 = true then ((spec_l01In.f a2 0 (wrap64 (a0_0 - 1))).bind fun t803 => (spec_l04Kernel.j0 k a1 a2 (!t803) a0_0 l0_1)) else (spec_l04Kernel.j0 k a1 a2 true a0_0 l0_1))) else (some (([] : List Int), 1)))
def spec_l04Kernel.T12 : Bool × List (List Nat × List Nat) := (true, [([], []), ([], []), ([], []), ([1, 2], [1, 2]), ([3], [3]), ([], []), ([0, 4, 5], [0, 4, 5]), ([], []), ([], []), ([], []), ([], []), ([9, 10], [9, 10]), ([11], [11]), ([8, 12, 6], [8, 12]), ([7, 13, 13], [7, 13]), ([6, 14], [6, 14]), ([], []), ([15, 16], [15, 16]), ([17, 14, 0, 1, 2, 3, 4, 5, 6, 7, 8, 9, 10, 11, 12, 13, 14, 15, 16, 17], [17])])
def spec_l04Kernel.B12 : List Nat := [0, 0, 0, 6, 14, 0, 63, 0, 0, 0, 0, 1536, 3584, 8063, 16383, 32767, 0, 131071, 262143]
theorem spec_l04Kernel.tab12 : rtab .any (opsOf Try.f106 12) = spec_l04Kernel.T12 := by kernel_rfl
theorem spec_l04Kernel.bits12 : waitsOk spec_l04Kernel.T12.2 spec_l04Kernel.B12 = true := by kernel_rfl
set_option maxHeartbeats 8000000 in
set_option maxRecDepth 100000 in
theorem spec_l04Kernel.calls (k : Nat) (a0_0 : Int) (A0_1 : Option Addr) (c0_1 : Nat) (l0_1 : List Int) (a1 : Int) (a2 : Int) (r1 : List Int) (r2 : Int) (w : World) (hr0_1 : Kd.C (Kd.int .i64) w A0_1 l0_1.length l0_1) (hc0_1 : l0_1.length ≤ c0_1) (h : spec_l04Kernel.f k a0_0 l0_1 a1 a2 = some (r1, r2)) :
  Calls Try.prog 106 #[.agg #[.int .i64 a0_0, .slice A0_1 l0_1.length c0_1], .int .i64 a1, .int .i64 a2] w fun e w' => ∃ v0_ : Value, e = .returned (.tuple #[v0_, .int .i64 r2]) ∧ Kd.R (Kd.int .i64) 2 w' w.heap.size (fun _ => True) v0_ r1 ∧ Below w.heap.size w w' := by
 have hu40 := Try.underlying40
 have HR0_1 := zA hr0_1
 have HC0_1 := zA hc0_1
 clear hr0_1 hc0_1
 have HB := zA (Below.refl w.heap.size w)
 have H : ((spec_l02Are.f k a0_0 l0_1).bind fun t801 => (if t801 = true then ((spec_l01In.f a1 0 11).bind fun t802 => (if t802 = true then ((spec_l01In.f a2 0 (wrap64 (a0_0 - 1))).bind fun t803 => (spec_l04Kernel.j0 k a1 a2 (!t803) a0_0 l0_1)) else (spec_l04Kernel.j0 k a1 a2 true a0_0 l0_1))) else (some (([] : List Int), 1)))) = some (r1, r2) := h
 clear h
 replace H := Option.bind_eq_some_iff.mp H
 obtain ⟨t801, A40, H⟩ := H
 replace H : (if t801 = true then ((spec_l01In.f a1 0 11).bind fun t802 => (if t802 = true then ((spec_l01In.f a2 0 (wrap64 (a0_0 - 1))).bind fun t803 => (spec_l04Kernel.j0 k a1 a2 (!t803) a0_0 l0_1)) else (spec_l04Kernel.j0 k a1 a2 true a0_0 l0_1))) else (some (([] : List Int), 1))) = some (r1, r2) := H
 have A4 := zA A40
 clear A40
 by_cases c5 : t801 = true
 ·subst c5
  have H1 : ((spec_l01In.f a1 0 11).bind fun t802 => (if t802 = true then ((spec_l01In.f a2 0 (wrap64 (a0_0 - 1))).bind fun t803 => (spec_l04Kernel.j0 k a1 a2 (!t803) a0_0 l0_1)) else (spec_l04Kernel.j0 k a1 a2 true a0_0 l0_1))) = some (r1, r2) := by rw [if_pos rfl] at H; exact H
  clear H
  have H := H1
  clear H1
  have HC6 := zA H
  clear H
  go_enter Try.func106, Try.ntmps106
  go_upto_region 3 with (first | ((with_reducible refine gate_dst (N := 3) rfl ?_); refine bx 3 #[.int .i64 a0_0, .slice A0_1 l0_1.length c0_1] 40 ?_; intro gb800 hg w7 hbox hb; have BK800 := zA (hbox); have GW800 := gq HB hg; have GE800 := gq HB hg; replace HB := xH HB hb; have := geI GE800; clear hb hbox hg; have hcz8_0 := bc BK800 0; have hcz8_1 := bc BK800 1; have hfz8_0 := bf BK800 0; have hfz8_1 := bf BK800 1) | ((with_reducible refine gate_callee (f := 61) rfl ?_); refine gL (some 15) Try.func61 #[.agg #[.int .i64 a0_0, .slice A0_1 l0_1.length c0_1]] ?_; (with_reducible refine (spec_l02Are.calls k a0_0 _ _ l0_1 true _ ?side1 ?side2 A4.out).mono ?_); (case side1 => exact uC ((Kd.C_below HR0_1.out HB.out))); (case side2 => exact HC0_1.out); rintro e w9 ⟨rfl, hb⟩; refine ⟨_, rfl, ?_⟩; replace BK800 := xB BK800 hb; replace HB := xH HB hb; (try clear hb); (try clear hb2); (try clear hk); (try clear hi)))
  (try simp only [Act.put, ls, lz, ln])
  go_cut [17] (fun v17 wc => ∃ (kq : Nat) (x17_5 : Bool), v17 = .bool x17_5 ∧ Aside0 (spec_l04Kernel.j0 kq a1 a2 x17_5 a0_0 l0_1 = some (r1, r2)) ∧ Aside0 (kq ≤ k) ∧ Aside0 (wc.heap[gb800]? = some (.cells #[.int .i64 a0_0, (.slice A0_1 l0_1.length c0_1)] 40 (0, 0))) ∧ Aside0 (Below w.heap.size w wc))
  case first =>
   have H := HC6.out
   clear HC6
   replace H := Option.bind_eq_some_iff.mp H
   obtain ⟨t802, A100, H⟩ := H
   replace H : (if t802 = true then ((spec_l01In.f a2 0 (wrap64 (a0_0 - 1))).bind fun t803 => (spec_l04Kernel.j0 k a1 a2 (!t803) a0_0 l0_1)) else (spec_l04Kernel.j0 k a1 a2 true a0_0 l0_1)) = some (r1, r2) := H
   have A10 := zA A100
   clear A100
   by_cases c11 : t802 = true
   ·subst c11
    have H1 : ((spec_l01In.f a2 0 (wrap64 (a0_0 - 1))).bind fun t803 => (spec_l04Kernel.j0 k a1 a2 (!t803) a0_0 l0_1)) = some (r1, r2) := by rw [if_pos rfl] at H; exact H
    clear H
    have H := H1
    clear H1
    replace H := Option.bind_eq_some_iff.mp H
    obtain ⟨t803, A120, H⟩ := H
    replace H : (spec_l04Kernel.j0 k a1 a2 (!t803) a0_0 l0_1) = some (r1, r2) := H
    have A12 := zA A120
    clear A120
    have H' := zA H
    clear H
    go_wp2_with (first | ((with_reducible refine gate_callee (f := 107) rfl ?_); refine gL (some 19) Try.func107 #[.int .i64 a1, .int .i64 0, .int .i64 11] ?_; (with_reducible refine (spec_l01In.calls a1 0 11 true _ A10.out).mono ?_); rintro e w' ⟨rfl, ⟨nd, rfl⟩⟩; refine ⟨_, rfl, ?_⟩; have hcz13_0 := bc BK800 0; have hcz13_1 := bc BK800 1; have hfz13_0 := bf BK800 0; have hfz13_1 := bf BK800 1) | (go_at_call 107; (with_reducible refine (spec_l01In.calls a2 0 (wrap64 (a0_0 - 1)) t803 _ A12.out).mono ?_); rintro e w' ⟨rfl, ⟨nd, rfl⟩⟩))
    go_meet
    case rel => exact ⟨_, (!t803), (by first | rfl | (simp; done) | (simp [*]; done)), H', ⟨by first | omega | exact Nat.le_refl _⟩, ⟨uB BK800.out⟩, ⟨uH HB.out⟩⟩
   ·replace c11 := Bool.eq_false_iff.mpr c11
    subst c11
    have H1 : (spec_l04Kernel.j0 k a1 a2 true a0_0 l0_1) = some (r1, r2) := by rw [if_neg (show ¬ (false = true) by decide)] at H; exact H
    clear H
    have H := H1
    clear H1
    have H' := zA H
    clear H
    go_wp2_with (first | ((with_reducible refine gate_callee (f := 107) rfl ?_); refine gL (some 19) Try.func107 #[.int .i64 a1, .int .i64 0, .int .i64 11] ?_; (with_reducible refine (spec_l01In.calls a1 0 11 false _ A10.out).mono ?_); rintro e w' ⟨rfl, ⟨nd, rfl⟩⟩; refine ⟨_, rfl, ?_⟩))
    go_meet
    case rel => exact ⟨_, (true), (by first | rfl | (simp; done) | (simp [*]; done)), H', ⟨by first | omega | exact Nat.le_refl _⟩, ⟨uB BK800.out⟩, ⟨uH HB.out⟩⟩
  case rest =>
   clear HC6
   (try clear c1);(try clear p2);(try clear c5);(try clear c6);(try clear p6);(try clear c10);(try clear c11);(try clear hcz13_0);(try clear hcz13_1);(try clear hcz8_0);(try clear hcz8_1);(try clear hfz13_0);(try clear hfz13_1);(try clear hfz8_0);(try clear hfz8_1)
   obtain ⟨kq, x17_5, rfl, HA, HJ5, BK800, HB⟩ := hcut
   cases kq with
   | zero => exact absurd HA.out (by simp [spec_l04Kernel.j0])
   | succ kj5 =>
    have H := HA.out
    clear HA
    simp only [spec_l04Kernel.j0] at H
    by_cases c14 : x17_5 = true
    ·subst c14
     have H1 : (some (([] : List Int), 2)) = some (r1, r2) := by rw [if_pos rfl] at H; exact H
     clear H
     have H := H1
     clear H1
     simp only [Option.some.injEq, Prod.mk.injEq] at H
     obtain ⟨rfl, rfl⟩ := H
     go_wp2
     go_ret2
     exact ⟨_, by first | rfl | (simp [errW_none, errW_some] <;> rfl) | (simp [*, errW_none, errW_some] <;> rfl), by first | exact Kd.R_nil _ _ _ _ _ | exact Kd.N_nil _ _ _ _ _ | exact Kd.V_nil _ _ _ _ _ | exact Kd.Q_nil _ _ _ _ _ | exact Kd.S_nil _ _ _ _ _, uH HB.out⟩
    ·replace c14 := Bool.eq_false_iff.mpr c14
     subst c14
     have H1 : ((spec_l02Order.f kj5 a0_0 l0_1).bind fun t804 => (if t804 < (wrap64 (a1 + 1)) then (some (([] : List Int), 5)) else ((spec_l04Polys.f kj5 a0_0 l0_1 a1).bind fun t808 => (spec_l04Kernel.l0 kj5 a1 a2 (([] : List Int)) a0_0 t808 0 a0_0 l0_1)))) = some (r1, r2) := by rw [if_neg (show ¬ (false = true) by decide)] at H; exact H
     clear H
     have H := H1
     clear H1
     replace H := Option.bind_eq_some_iff.mp H
     obtain ⟨t804, A150, H⟩ := H
     replace H : (if t804 < (wrap64 (a1 + 1)) then (some (([] : List Int), 5)) else ((spec_l04Polys.f kj5 a0_0 l0_1 a1).bind fun t808 => (spec_l04Kernel.l0 kj5 a1 a2 (([] : List Int)) a0_0 t808 0 a0_0 l0_1))) = some (r1, r2) := H
     have A15 := zA A150
     clear A150
     by_cases c16 : t804 < (wrap64 (a1 + 1))
     rotate_left
     ·rw [if_neg c16] at H
      have c16b0 : decide (t804 < (wrap64 (a1 + 1))) = false := decide_eq_false c16
      clear c16
      obtain ⟨y805, hy805⟩ : ∃ y_ : List Int, y_ = (([] : List Int)) := ⟨_, rfl⟩
      replace H : ((spec_l04Polys.f kj5 a0_0 l0_1 a1).bind fun t808 => (spec_l04Kernel.l0 kj5 a1 a2 y805 a0_0 t808 0 a0_0 l0_1)) = some (r1, r2) := by first | (rw [hy805]; exact H) | exact H
      have Ny805 := zA hy805
      clear hy805
      replace H := Option.bind_eq_some_iff.mp H
      obtain ⟨t808, A190, H⟩ := H
      replace H : (spec_l04Kernel.l0 kj5 a1 a2 y805 a0_0 t808 0 a0_0 l0_1) = some (r1, r2) := H
      have A19 := zA A190
      clear A190
      have H' := zA H
      clear H
      have hcz20_0 := bc BK800 0
      have hcz20_1 := bc BK800 1
      have hfz20_0 := bf BK800 0
      have hfz20_1 := bf BK800 1
      try go_wp2_with (first | ((with_reducible refine gate_callee (f := 91) rfl ?_); refine gL (some 31) Try.func91 #[.agg #[.int .i64 a0_0, .slice A0_1 l0_1.length c0_1]] ?_; (with_reducible refine (spec_l02Order.calls kj5 a0_0 _ _ l0_1 t804 _ ?side1 ?side2 A15.out).mono ?_); (case side1 => exact uC ((Kd.C_below HR0_1.out HB.out))); (case side2 => exact HC0_1.out); rintro e w21 ⟨rfl, hb⟩; refine ⟨_, rfl, ?_⟩; replace BK800 := xB BK800 hb; replace HB := xH HB hb; (try clear hb); (try clear hb2); (try clear hk); (try clear hi)))
      replace BK800 := zA (blk_drew BK800.out)
      replace HB := zA (below_drew1 HB.out)
      refine start_ (n := 5) (S := fun w' => w'.cell? ⟨gb800, 0, none⟩ = some (.int .i64 a0_0) ∧ w'.cell? ⟨gb800, 1, none⟩ = some (.slice A0_1 l0_1.length c0_1)) (ds := []) #[false, false, false, false, false] (by kernel_rfl) rfl rfl ⟨bcu BK800 0, bcu BK800 1⟩ (fun hHeld => ?_)
      generalize w21.drew = w22 at BK800 HB hHeld ⊢
      refine pure_ (i := 1) (N := some 36) (v := ?_) (a' := ?_) (bl 5 2) rfl rfl (by kernel_rfl) (fun _ _ _ h => h) (Or.inl ⟨by rfl, ?_⟩) ?_ ?_
      rotate_left
      ·intro w'
       go_simp
       with_reducible rfl
      rotate_left
      ·simp only [Act.put, ls, lz, ln, i64_w, i32_w]
       rfl
      refine take_ (i := 2) (N := some 37) (v := ?_) (a' := ?_) (bl 5 6) rfl rfl (by kernel_rfl) (fun _ _ _ h => h) (Or.inl ⟨by rfl, ?_⟩) hHeld ?_ ?_
      rotate_left
      ·rintro w' ⟨s0, s1⟩
       go_simp
       with_reducible rfl
      rotate_left
      ·simp only [Act.put, ls, lz, ln, i64_w, i32_w]
       rfl
      refine one_ (i := 0) (N := some 35) (bl 5 7) rfl rfl (by kernel_rfl) (by decide) (fun K hK => ?_)
      refine Kd.R_lit_step (Kd.int .i64) _ 2 ?hg (N := 35) ?hd (xs := ([] : List Int)) (inner := []) (ok := fun _ => True) (okp := fun _ => True) ?hr ?hp (fun _ hk => hk) trivial (Below.refl _ _) (Nat.le_refl _) (by simp) ?_; (case hd => rfl); (case hg => rfl); (case hr => first | (go_simp; done) | (go_simp; rfl)); (case hp => exact (Reps.none _ _))
      intro v806 w23 ho24 hb hg_ hnew_
      clear hg_ hnew_
      (first | rw [← Ny805.out] at ho24 | (simp only [Int.reduceToNat] at ho24; rw [← Ny805.out] at ho24))
      have HO807 := zA (Kd.R_lower ho24 (below_size (uH HB.out)))
      replace BK800 := xB BK800 hb
      replace HB := xH HB hb
      clear hb ho24
      refine hK.out _ _ ⟨bcu BK800 0, bcu BK800 1⟩ (fun hHeld => ?_)
      clear hK K
      refine no_ 35 ?_
      refine pure_ (i := 3) (N := some 8) (v := ?_) (a' := ?_) (bl 5 15) rfl rfl (by kernel_rfl) (fun _ _ _ h => h) (Or.inl ⟨by rfl, ?_⟩) ?_ ?_
      rotate_left
      ·intro w'
       go_simp
       with_reducible rfl
      rotate_left
      ·simp only [Act.put, ls, lz, ln, i64_w, i32_w]
       rfl
      refine pure_ (i := 4) (N := some 9) (v := ?_) (a' := ?_) (bl 5 31) rfl rfl (by kernel_rfl) (fun _ _ _ h => h) (Or.inl ⟨by rfl, ?_⟩) ?_ ?_
      rotate_left
      ·intro w'
       go_simp
       with_reducible rfl
      rotate_left
      ·simp only [Act.put, ls, lz, ln, i64_w, i32_w]
       rfl
      refine done_ (by kernel_rfl) ?_
      have hcz25_0 := bc BK800 0
      have hcz25_1 := bc BK800 1
      have hfz25_0 := bf BK800 0
      have hfz25_1 := bf BK800 1
      try go_wp2_with (first | ((with_reducible refine gate_callee (f := 85) rfl ?_); refine gL (some 40) Try.func85 #[.agg #[.int .i64 a0_0, .slice A0_1 l0_1.length c0_1], .int .i64 a1] ?_; (with_reducible refine (spec_l04Polys.calls kj5 a0_0 _ _ l0_1 a1 t808 _ ?side1 ?side2 A19.out).mono ?_); (case side1 => exact uC ((Kd.C_below HR0_1.out HB.out))); (case side2 => exact HC0_1.out); rintro e w26 ⟨v809, rfl, ho0, hb⟩; refine ⟨_, rfl, ?_⟩; have HO810 := zA (Kd.N_lower (Kd.N_mono (ok' := fun k_ => some k_ ≠ (v806 : Value).ownBlock ∧ k_ ≠ gb800) ho0 (fun k_ hk_ => ⟨(Kd.fresh' (Kd.R_lt (uR HO807.out)) k_ hk_), (Kd.freshB (g := gb800) (o := .cells #[.int .i64 a0_0, .slice A0_1 l0_1.length c0_1] 40 (0, 0)) (uB BK800.out) k_ hk_)⟩)) (below_size (uH HB.out))); replace HO807 := xR HO807 hb; replace BK800 := xB BK800 hb; replace HB := xH HB hb; (try clear hb); (try clear hb2); (try clear hk); (try clear hi); (try clear ho0)))
      go_loopg [8, 11] kj5 (fun kq v8 v11 w' => ∃ (x8_2 : List Int) (x11_2 : Int), v11 = .int .i64 x11_2 ∧ Aside0 (spec_l04Kernel.l0 kq a1 a2 x8_2 a0_0 t808 x11_2 a0_0 l0_1 = some (r1, r2)) ∧ Aside0 (kq ≤ kj5) ∧ Aside0 (Kd.R (Kd.int .i64) 2 w' w.heap.size (fun _ => True) v8 x8_2) ∧ Aside0 (Kd.N (Kd.slice 2 (Kd.int .i64)) 22 w' w.heap.size (fun k_ => some k_ ≠ (v8 : Value).ownBlock ∧ k_ ≠ gb800) v809 t808) ∧ Aside0 (w'.heap[gb800]? = some (.cells #[.int .i64 a0_0, (.slice A0_1 l0_1.length c0_1)] 40 (0, 0))) ∧ Aside0 (Below w.heap.size w w'))
      case atStart => exact ⟨(y805), (0), (by first | rfl | (simp; done) | (simp [*]; done)), H', ⟨Nat.le_refl _⟩, ⟨uR HO807.out⟩, ⟨by (with_reducible repeat (first | apply Kd.N_alloc | apply Kd.N_drewN | apply Kd.N_drew)); exact HO810.out⟩, ⟨uB BK800.out⟩, ⟨uH HB.out⟩⟩
      case round =>
       clear H'
       (try clear c1);(try clear p2);(try clear c5);(try clear c6);(try clear p6);(try clear c8);(try clear c9);(try clear c10);(try clear c11);(try clear c14);(try clear c16);(try clear c16b0);(try clear hcz13_0);(try clear hcz13_1);(try clear hcz17_0);(try clear hcz17_1);(try clear hcz20_0);(try clear hcz20_1);(try clear hcz25_0);(try clear hcz25_1);(try clear hcz8_0);(try clear hcz8_1);(try clear hfz13_0)
       (try clear hfz13_1);(try clear hfz17_0);(try clear hfz17_1);(try clear hfz20_0);(try clear hfz20_1);(try clear hfz25_0);(try clear hfz25_1);(try clear hfz8_0);(try clear hfz8_1);(try clear p2);(try clear p6)
       obtain ⟨x8_2, x11_2, rfl, HA, HK2, HO_8, HO_10, BK800, HB⟩ := hrel
       cases gk with
       | zero => exact absurd HA.out (by simp [spec_l04Kernel.l0])
       | succ k2 =>
        have H := HA.out
        clear HA
        simp only [spec_l04Kernel.l0] at H
        by_cases c27 : x11_2 ≤ a1
        rotate_left
        ·rw [if_neg c27] at H
         have c27b0 : decide (x11_2 ≤ a1) = false := decide_eq_false c27
         clear c27
         simp only [Option.some.injEq, Prod.mk.injEq] at H
         obtain ⟨rfl, rfl⟩ := H
         go_wp2
         go_ret2
         exact ⟨_, by first | rfl | (simp [errW_none, errW_some] <;> rfl) | (simp [*, errW_none, errW_some] <;> rfl), uR HO_8.out, uH HB.out⟩
        rw [if_pos c27] at H
        have c27b0 : decide (x11_2 ≤ a1) = true := decide_eq_true c27
        clear c27
        by_cases c28 : 0 ≤ x11_2
        rotate_left
        ·rw [if_neg c28] at H
         exact absurd H (by simp)
        rw [if_pos c28] at H
        have c28b0 : decide (0 ≤ x11_2) = true := decide_eq_true c28
        clear c28
        by_cases c29 : x11_2 < (t808.length : Int)
        rotate_left
        ·rw [if_neg c29] at H
         exact absurd H (by simp)
        rw [if_pos c29] at H
        have c29b0 : decide (x11_2 < (t808.length : Int)) = true := decide_eq_true c29
        clear c29
        replace H := Option.bind_eq_some_iff.mp H
        obtain ⟨t812, A300, H⟩ := H
        replace H : ((spec_l04Norm.f k2 a0_0 l0_1 (rd_L1 t808 x11_2) 0).bind fun t814 => ((spec_l01Inverse.f k2 a0_0 t814).bind fun t815 => (if a0_0 = 0 then (none) else ((spec_l01Add.f k2 a0_0 x8_2 (rd_L1 t808 x11_2) (Int.tmod (wrap64 (t812 * t815)) a0_0)).bind fun t817 => (spec_l04Kernel.l0 k2 a1 a2 t817 a0_0 t808 (wrap64 (x11_2 + 1)) a0_0 l0_1))))) = some (r1, r2) := H
        have A30 := zA A300
        clear A300
        replace H := Option.bind_eq_some_iff.mp H
        obtain ⟨t814, A310, H⟩ := H
        replace H : ((spec_l01Inverse.f k2 a0_0 t814).bind fun t815 => (if a0_0 = 0 then (none) else ((spec_l01Add.f k2 a0_0 x8_2 (rd_L1 t808 x11_2) (Int.tmod (wrap64 (t812 * t815)) a0_0)).bind fun t817 => (spec_l04Kernel.l0 k2 a1 a2 t817 a0_0 t808 (wrap64 (x11_2 + 1)) a0_0 l0_1)))) = some (r1, r2) := H
        have A31 := zA A310
        clear A310
        replace H := Option.bind_eq_some_iff.mp H
        obtain ⟨t815, A320, H⟩ := H
        replace H : (if a0_0 = 0 then (none) else ((spec_l01Add.f k2 a0_0 x8_2 (rd_L1 t808 x11_2) (Int.tmod (wrap64 (t812 * t815)) a0_0)).bind fun t817 => (spec_l04Kernel.l0 k2 a1 a2 t817 a0_0 t808 (wrap64 (x11_2 + 1)) a0_0 l0_1))) = some (r1, r2) := H
        have A32 := zA A320
        clear A320
        by_cases c33 : a0_0 = 0
        rotate_left
        ·rw [if_neg c33] at H
         have c33b0 : (a0_0 == 0) = false := beq_eq_false_iff_ne.mpr c33
         have c33b1 : (a0_0 != 0) = true := bne_iff_ne.mpr c33
         replace H := Option.bind_eq_some_iff.mp H
         obtain ⟨t817, A340, H⟩ := H
         replace H : (spec_l04Kernel.l0 k2 a1 a2 t817 a0_0 t808 (wrap64 (x11_2 + 1)) a0_0 l0_1) = some (r1, r2) := H
         have A34 := zA A340
         clear A340
         have H' := zA H
         clear H
         try go_wp2
         replace HO_8 := zA (Kd.R_drew HO_8.out)
         replace HO_10 := zA (Kd.N_drew HO_10.out)
         replace BK800 := zA (blk_drew BK800.out)
         replace HB := zA (below_drew1 HB.out)
         obtain ⟨Ao36, co36, eo36⟩ := Kd.N_slice HO_10.out
         (first | subst eo36 | (injection eo36 with f1_ f2_ f3_; have f4_ := f1_.symm; have f5_ := f3_.symm; clear f1_ f2_ f3_; subst f4_; subst f5_))
         have p811 : 0 ≤ (x11_2 : Int) := of_decide_eq_true (by first | (with_reducible assumption) | assumption)
         have q811 : x11_2 < (t808.length : Int) := of_decide_eq_true (by first | (with_reducible assumption) | assumption)
         obtain ⟨ad811, A811_0, c811_0, e811, hx811_0, hl811_0, hi811_0⟩ := at_L1 (Kd.N_reads' HO_10.out).2.2 x11_2 p811 q811
         cases e811
         obtain ⟨ce811, hce811, hMe811, hcc811⟩ := Kd.N_get HO_10.out [] x11_2 p811 (by first | exact q811 | exact of_decide_eq_true (by first | (with_reducible assumption) | assumption) | (have e_ := (Kd.N_reads' HO_10.out).1; omega))
         obtain ⟨ua811_0, uc811_0, rfl, ul811_0, ge811_0⟩ := Kd.FK_slice_open hMe811
         have hv811_0 := hcc811 0 _ rfl
         rw [Nat.add_zero, show ((Kd.slice 2 (Kd.int .i64))).sz = 1 from rfl, Nat.mul_one] at hv811_0
         replace hv811_0 := Option.some.inj (hv811_0.symm.trans hx811_0)
         injection hv811_0 with hva_ hvn_ hvc_
         rw [hva_] at ge811_0
         rw [hvc_] at ul811_0
         have HL811_0 := zA (show Kd.V (Kd.int .i64) 2 _ w.heap.size _ _ (rd_L1 t808 x11_2) from Kd.V_mk ul811_0 ge811_0)
         clear hva_ hvn_ hvc_ ge811_0 ul811_0
         clear hcc811 hce811
         have HR811_0 := zA hi811_0
         have HC811_0 := zA hl811_0
         clear hi811_0 hl811_0
         replace p811 := eq_true p811
         replace q811 := eq_true q811
         have p813 : 0 ≤ (x11_2 : Int) := of_decide_eq_true (by first | (with_reducible assumption) | assumption)
         have q813 : x11_2 < (t808.length : Int) := of_decide_eq_true (by first | (with_reducible assumption) | assumption)
         obtain ⟨ad813, A813_0, c813_0, e813, hx813_0, hl813_0, hi813_0⟩ := at_L1 (Kd.N_reads' HO_10.out).2.2 x11_2 p813 q813
         obtain rfl : ad811 = ad813 := (by injection e813)
         obtain ⟨ce813, hce813, hMe813, hcc813⟩ := Kd.N_get HO_10.out [] x11_2 p813 (by first | exact q813 | exact of_decide_eq_true (by first | (with_reducible assumption) | assumption) | (have e_ := (Kd.N_reads' HO_10.out).1; omega))
         obtain ⟨ua813_0, uc813_0, rfl, ul813_0, ge813_0⟩ := Kd.FK_slice_open hMe813
         have hv813_0 := hcc813 0 _ rfl
         rw [Nat.add_zero, show ((Kd.slice 2 (Kd.int .i64))).sz = 1 from rfl, Nat.mul_one] at hv813_0
         replace hv813_0 := Option.some.inj (hv813_0.symm.trans hx813_0)
         injection hv813_0 with hva_ hvn_ hvc_
         rw [hva_] at ge813_0
         rw [hvc_] at ul813_0
         have HL813_0 := zA (show Kd.V (Kd.int .i64) 2 _ w.heap.size _ _ (rd_L1 t808 x11_2) from Kd.V_mk ul813_0 ge813_0)
         clear hva_ hvn_ hvc_ ge813_0 ul813_0
         clear hcc813 hce813
         have HR813_0 := zA hi813_0
         have HC813_0 := zA hl813_0
         clear hi813_0 hl813_0
         replace p813 := eq_true p813
         replace q813 := eq_true q813
         have ea_ := Option.some.inj (hx811_0.symm.trans hx813_0)
         injection ea_ with ea_ en_ ec_
         subst ea_
         subst ec_
         clear en_
         refine start_ (n := 19) (S := fun w' => w'.cell? ⟨gb800, 0, none⟩ = some (.int .i64 a0_0) ∧ w'.cell? ⟨gb800, 1, none⟩ = some (.slice A0_1 l0_1.length c0_1) ∧ w'.cell? (ad811.add (x11_2).toNat) = some (.slice A811_0 (rd_L1 t808 x11_2).length c811_0) ∧ w'.cell? (ad811.add (x11_2).toNat) = some (.slice A811_0 (rd_L1 t808 x11_2).length c811_0)) (ds := []) #[false, false, false, false, false, false, false, false, false, false, false, false, false, false, false, false, false, false, false] (by kernel_rfl) rfl rfl ⟨bcu BK800 0, bcu BK800 1, hx811_0, hx813_0⟩ (fun hHeld => ?_); refine with_tabW spec_l04Kernel.tab12 spec_l04Kernel.bits12 (fun HT_ HW_ => ?_)
         generalize wr.drew = w35 at HO_8 HO_10 BK800 HB HL811_0 HL813_0 HR811_0 HR813_0 hx811_0 hx813_0 hHeld ⊢
         refine pu_ 0 46 (bl 19 1) HT_ ?_
         refine pu_ 1 47 (bl 19 3) HT_ ?_
         refine pu_ 2 48 (bl 19 7) HT_ ?_
         refine pu_ 3 49 (bl 19 15) HT_ ?_
         refine pu_ 5 51 (bl 19 47) HT_ ?_
         refine pu_ 7 53 (bl 19 175) HT_ ?_
         refine pu_ 9 55 (bl 19 687) HT_ ?_
         refine pu_ 10 56 (bl 19 1711) HT_ ?_
         refine pu_ 11 57 (bl 19 3759) HT_ ?_
         refine pu_ 16 62 (bl 19 69295) HT_ ?_
         refine ta_ 4 50 (bl 19 69311) HT_ HW_ hHeld ?_
         refine ta_ 8 54 (bl 19 69567) HT_ HW_ hHeld ?_
         refine ta_ 12 58 (bl 19 73663) HT_ HW_ hHeld ?_
         refine on_ 6 (some 52) (bl 19 73727) HT_ (fun K hK => ?_)
         refine gS Try.func67 #[.int .i64 a0_0, .slice A811_0 (rd_L1 t808 x11_2).length c811_0, .int .i64 a2] ?_
         with_reducible refine (spec_l01At.calls k2 a0_0 _ _ (rd_L1 t808 x11_2) a2 t812 _ ?side1 ?side2 A30.out).mono ?_
         (case side1 => repeat (first | exact (by repeat (first | (with_reducible exact HR811_0.out) | (with_reducible refine Kd.C_alloc ?_ _) | (with_reducible refine Kd.C_drewN ?_ _) | (with_reducible refine Kd.C_drew ?_) | exact HR811_0.out)) | (with_reducible refine Kd.C_alloc ?_ _) | (with_reducible refine Kd.C_drewN ?_ _) | (with_reducible refine Kd.C_drew ?_)))
         (case side2 => exact HC811_0.out)
         rintro e w' ⟨rfl, ⟨nd, rfl⟩⟩
         refine ⟨_, rfl, ?_⟩
         refine hK.out _ _ ⟨bcu BK800 0, bcu BK800 1, hHeld.2.2.1, hHeld.2.2.2⟩ (fun hHeld => ?_)
         clear hK K
         refine no_ 52 ?_
         refine on_ 13 (some 59) (bl 19 81919) HT_ (fun K hK => ?_)
         refine gS Try.func84 #[.agg #[.int .i64 a0_0, .slice A0_1 l0_1.length c0_1], .slice A811_0 (rd_L1 t808 x11_2).length c811_0, .int .i64 0] ?_
         with_reducible refine (spec_l04Norm.calls k2 a0_0 _ _ l0_1 _ _ (rd_L1 t808 x11_2) 0 t814 _ ?side1 ?side2 ?side3 ?side4 A31.out).mono ?_
         (case side1 => repeat (first | exact (Kd.C_below HR0_1.out (uH HB.out)) | (with_reducible refine Kd.C_alloc ?_ _) | (with_reducible refine Kd.C_drewN ?_ _) | (with_reducible refine Kd.C_drew ?_)))
         (case side2 => exact HC0_1.out)
         (case side3 => repeat (first | exact (by repeat (first | (with_reducible exact HR813_0.out) | (with_reducible refine Kd.C_alloc ?_ _) | (with_reducible refine Kd.C_drewN ?_ _) | (with_reducible refine Kd.C_drew ?_) | exact HR813_0.out)) | (with_reducible refine Kd.C_alloc ?_ _) | (with_reducible refine Kd.C_drewN ?_ _) | (with_reducible refine Kd.C_drew ?_)))
         (case side4 => exact HC813_0.out)
         rintro e w37 ⟨rfl, hb⟩
         have HS2_ := (hb.cell (World.block_lt_of_cell? _ _ (hHeld.2.2.1))).trans (hHeld.2.2.1)
         have HS3_ := (hb.cell (World.block_lt_of_cell? _ _ (hHeld.2.2.2))).trans (hHeld.2.2.2)
         refine ⟨_, rfl, ?_⟩
         replace HO_8 := xR HO_8 hb
         replace HO_10 := zA (Kd.N_below (by (with_reducible repeat (first | apply Kd.N_alloc | apply Kd.N_drewN | apply Kd.N_drew)); exact HO_10.out) hb)
         replace HL811_0 := zA (Kd.V_below (by (with_reducible repeat (first | apply Kd.V_alloc | apply Kd.V_drewN | apply Kd.V_drew)); exact HL811_0.out) hb)
         replace HL813_0 := zA (Kd.V_below (by (with_reducible repeat (first | apply Kd.V_alloc | apply Kd.V_drewN | apply Kd.V_drew)); exact HL813_0.out) hb)
         replace BK800 := xB BK800 hb
         replace HR811_0 := zA (Kd.C_below (by repeat (first | (with_reducible exact HR811_0.out) | (with_reducible refine Kd.C_alloc ?_ _) | (with_reducible refine Kd.C_drewN ?_ _) | (with_reducible refine Kd.C_drew ?_) | exact HR811_0.out)) hb)
         replace HR813_0 := zA (Kd.C_below (by repeat (first | (with_reducible exact HR813_0.out) | (with_reducible refine Kd.C_alloc ?_ _) | (with_reducible refine Kd.C_drewN ?_ _) | (with_reducible refine Kd.C_drew ?_) | exact HR813_0.out)) hb)
         replace HB := xH HB hb
         (try clear hb); (try clear hb2); (try clear hk); (try clear hi)
         refine hK.out _ _ ⟨bcu BK800 0, bcu BK800 1, HS2_, HS3_⟩ (fun hHeld => ?_)
         clear hK K
         refine no_ 59 ?_
         refine on_ 14 (some 60) (bl 19 98303) HT_ (fun K hK => ?_)
         refine gS Try.func66 #[.int .i64 a0_0, .int .i64 t814] ?_
         with_reducible refine (spec_l01Inverse.calls k2 a0_0 t814 t815 _ A32.out).mono ?_
         rintro e w' ⟨rfl, ⟨nd, rfl⟩⟩
         refine ⟨_, rfl, ?_⟩
         refine hK.out _ _ ⟨bcu BK800 0, bcu BK800 1, hHeld.2.2.1, hHeld.2.2.2⟩ (fun hHeld => ?_)
         clear hK K
         refine no_ 60 ?_
         refine pu_ 15 61 (bl 19 131071) HT_ ?_
         refine pu_ 17 63 (bl 19 262143) HT_ ?_
         refine pu_ 18 12 (bl 19 524287) HT_ ?_
         refine done_ (done_of HT_.out (by kernel_rfl)) ?_
         have p816 : 0 ≤ (x11_2 : Int) := of_decide_eq_true (by first | (with_reducible assumption) | assumption)
         have q816 : x11_2 < (t808.length : Int) := of_decide_eq_true (by first | (with_reducible assumption) | assumption)
         obtain ⟨ad816, A816_0, c816_0, e816, hx816_0, hl816_0, hi816_0⟩ := at_L1 (Kd.N_reads' HO_10.out).2.2 x11_2 p816 q816
         obtain rfl : ad811 = ad816 := (by injection e816)
         obtain ⟨ce816, hce816, hMe816, hcc816⟩ := Kd.N_get HO_10.out [] x11_2 p816 (by first | exact q816 | exact of_decide_eq_true (by first | (with_reducible assumption) | assumption) | (have e_ := (Kd.N_reads' HO_10.out).1; omega))
         obtain ⟨ua816_0, uc816_0, rfl, ul816_0, ge816_0⟩ := Kd.FK_slice_open hMe816
         have hv816_0 := hcc816 0 _ rfl
         rw [Nat.add_zero, show ((Kd.slice 2 (Kd.int .i64))).sz = 1 from rfl, Nat.mul_one] at hv816_0
         replace hv816_0 := Option.some.inj (hv816_0.symm.trans hx816_0)
         injection hv816_0 with hva_ hvn_ hvc_
         rw [hva_] at ge816_0
         rw [hvc_] at ul816_0
         have HL816_0 := zA (show Kd.V (Kd.int .i64) 2 _ w.heap.size _ _ (rd_L1 t808 x11_2) from Kd.V_mk ul816_0 ge816_0)
         clear hva_ hvn_ hvc_ ge816_0 ul816_0
         clear hcc816 hce816
         have HR816_0 := zA hi816_0
         have HC816_0 := zA hl816_0
         clear hi816_0 hl816_0
         replace p816 := eq_true p816
         replace q816 := eq_true q816
         obtain ⟨Ao38, co38, eo38⟩ := Kd.R_slice HO_8.out
         subst eo38
         try go_wp2_with (first | ((with_reducible refine gate_callee (f := 96) rfl ?_); refine gL (some 71) Try.func96 #[.int .i64 a0_0, .slice Ao38 x8_2.length co38, .slice A811_0 (rd_L1 t808 x11_2).length c811_0, .int .i64 (Int.tmod (wrap64 (t812 * t815)) a0_0)] ?_; (with_reducible refine (spec_l01Add.calls k2 a0_0 _ _ x8_2 _ _ (rd_L1 t808 x11_2) (Int.tmod (wrap64 (t812 * t815)) a0_0) t817 _ ?side1 ?side2 ?side3 ?side4 A34.out).mono ?_); (case side1 => exact uC ((Kd.R_reads' HO_8.out).2.2)); (case side2 => exact (Kd.R_reads' HO_8.out).2.1); (case side3 => repeat (first | exact (by repeat (first | (with_reducible exact HR811_0.out) | (with_reducible refine Kd.C_alloc ?_ _) | (with_reducible refine Kd.C_drewN ?_ _) | (with_reducible refine Kd.C_drew ?_) | exact HR811_0.out)) | (with_reducible refine Kd.C_alloc ?_ _) | (with_reducible refine Kd.C_drewN ?_ _) | (with_reducible refine Kd.C_drew ?_))); (case side4 => exact HC811_0.out); rintro e w39 ⟨v818, rfl, ho0, hb⟩; refine ⟨_, rfl, ?_⟩; replace HO_10 := zA (Kd.N_elder' (by (with_reducible repeat (first | apply Kd.N_alloc | apply Kd.N_drewN | apply Kd.N_drew)); exact HO_10.out) (Kd.R_base ho0) hb); replace HL811_0 := zA (Kd.V_elder' (by (with_reducible repeat (first | apply Kd.V_alloc | apply Kd.V_drewN | apply Kd.V_drew)); exact HL811_0.out) (Kd.R_base ho0) hb); replace HL813_0 := zA (Kd.V_elder' (by (with_reducible repeat (first | apply Kd.V_alloc | apply Kd.V_drewN | apply Kd.V_drew)); exact HL813_0.out) (Kd.R_base ho0) hb); replace HL816_0 := zA (Kd.V_elder' (by (with_reducible repeat (first | apply Kd.V_alloc | apply Kd.V_drewN | apply Kd.V_drew)); exact HL816_0.out) (Kd.R_base ho0) hb); have HO819 := zA (Kd.R_lower (Kd.R_new' ho0 (Kd.R_lt (uR HO_8.out))) (below_size (uH HB.out))); replace HO_8 := zA (Kd.R_elder' (uR HO_8.out) (Kd.R_base ho0) hb); replace BK800 := xB BK800 hb; replace HR811_0 := zA (Kd.C_below (by repeat (first | (with_reducible exact HR811_0.out) | (with_reducible refine Kd.C_alloc ?_ _) | (with_reducible refine Kd.C_drewN ?_ _) | (with_reducible refine Kd.C_drew ?_) | exact HR811_0.out)) hb); replace HR813_0 := zA (Kd.C_below (by repeat (first | (with_reducible exact HR813_0.out) | (with_reducible refine Kd.C_alloc ?_ _) | (with_reducible refine Kd.C_drewN ?_ _) | (with_reducible refine Kd.C_drew ?_) | exact HR813_0.out)) hb); replace HR816_0 := zA (Kd.C_below (by repeat (first | (with_reducible exact HR816_0.out) | (with_reducible refine Kd.C_alloc ?_ _) | (with_reducible refine Kd.C_drewN ?_ _) | (with_reducible refine Kd.C_drew ?_) | exact HR816_0.out)) hb); replace HB := xH HB hb; (try clear hb); (try clear hb2); (try clear hk); (try clear hi); (try clear ho0)))
         go_roundg k2
         case measure => have := HJ5.out; have := HK2.out; omega
         case rel => exact ⟨(t817), (wrap64 (x11_2 + 1)), (by first | rfl | (simp; done) | (simp [*]; done)), H', ⟨by have := HJ5.out; have := HK2.out; omega⟩, ⟨uR (Kd.R_mono HO819.out (fun _ hk => trivial))⟩, ⟨by (with_reducible repeat (first | apply Kd.N_alloc | apply Kd.N_drewN | apply Kd.N_drew)); exact Kd.N_mono HO_10.out (fun _ hk => ⟨hk.2, hk.1.2⟩)⟩, ⟨uB BK800.out⟩, ⟨uH HB.out⟩⟩
        rw [if_pos c33] at H
        exact absurd H (by simp)
     rw [if_pos c16] at H
     have c16b0 : decide (t804 < (wrap64 (a1 + 1))) = true := decide_eq_true c16
     clear c16
     simp only [Option.some.injEq, Prod.mk.injEq] at H
     obtain ⟨rfl, rfl⟩ := H
     have hcz17_0 := bc BK800 0
     have hcz17_1 := bc BK800 1
     have hfz17_0 := bf BK800 0
     have hfz17_1 := bf BK800 1
     go_wp2_with (first | ((with_reducible refine gate_callee (f := 91) rfl ?_); refine gL (some 31) Try.func91 #[.agg #[.int .i64 a0_0, .slice A0_1 l0_1.length c0_1]] ?_; (with_reducible refine (spec_l02Order.calls kj5 a0_0 _ _ l0_1 t804 _ ?side1 ?side2 A15.out).mono ?_); (case side1 => exact uC ((Kd.C_below HR0_1.out HB.out))); (case side2 => exact HC0_1.out); rintro e w18 ⟨rfl, hb⟩; refine ⟨_, rfl, ?_⟩; replace BK800 := xB BK800 hb; replace HB := xH HB hb; (try clear hb); (try clear hb2); (try clear hk); (try clear hi)))
     go_ret2
     exact ⟨_, by first | rfl | (simp [errW_none, errW_some] <;> rfl) | (simp [*, errW_none, errW_some] <;> rfl), by first | exact Kd.R_nil _ _ _ _ _ | exact Kd.N_nil _ _ _ _ _ | exact Kd.V_nil _ _ _ _ _ | exact Kd.Q_nil _ _ _ _ _ | exact Kd.S_nil _ _ _ _ _, uH HB.out⟩
 ·replace c5 := Bool.eq_false_iff.mpr c5
  subst c5
  have H1 : (some (([] : List Int), 1)) = some (r1, r2) := by rw [if_neg (show ¬ (false = true) by decide)] at H; exact H
  clear H
  have H := H1
  clear H1
  simp only [Option.some.injEq, Prod.mk.injEq] at H
  obtain ⟨rfl, rfl⟩ := H
  go_enter Try.func106, Try.ntmps106
  go_wp2_with (first | ((with_reducible refine gate_dst (N := 3) rfl ?_); refine bx 3 #[.int .i64 a0_0, .slice A0_1 l0_1.length c0_1] 40 ?_; intro gb800 hg w40 hbox hb; have BK800 := zA (hbox); have GW800 := gq HB hg; have GE800 := gq HB hg; replace HB := xH HB hb; have := geI GE800; clear hb hbox hg; have hcz41_0 := bc BK800 0; have hcz41_1 := bc BK800 1; have hfz41_0 := bf BK800 0; have hfz41_1 := bf BK800 1) | ((with_reducible refine gate_callee (f := 61) rfl ?_); refine gL (some 15) Try.func61 #[.agg #[.int .i64 a0_0, .slice A0_1 l0_1.length c0_1]] ?_; (with_reducible refine (spec_l02Are.calls k a0_0 _ _ l0_1 false _ ?side1 ?side2 A4.out).mono ?_); (case side1 => exact uC ((Kd.C_below HR0_1.out HB.out))); (case side2 => exact HC0_1.out); rintro e w42 ⟨rfl, hb⟩; refine ⟨_, rfl, ?_⟩; replace BK800 := xB BK800 hb; replace HB := xH HB hb; (try clear hb); (try clear hb2); (try clear hk); (try clear hi)))
  go_ret2
  exact ⟨_, by first | rfl | (simp [errW_none, errW_some] <;> rfl) | (simp [*, errW_none, errW_some] <;> rfl), by first | exact Kd.R_nil _ _ _ _ _ | exact Kd.N_nil _ _ _ _ _ | exact Kd.V_nil _ _ _ _ _ | exact Kd.Q_nil _ _ _ _ _ | exact Kd.S_nil _ _ _ _ _, uH HB.out⟩
/- A call of a function value as a step of a region whose order is drawn; no condition. -/
open Go Go.RowKit Go.Proofs.YtfbnkebgdmfcfaaW.PrintWords Go.Proofs.YtfbnkebgdmfcfaaW.PrintLast Go.Proofs.YtfbnkebgdmfcfaaW.PrintMore
theorem goesV_ {P : Program} {ops : Array Oper} {Q : Exit → Act → World → Prop} {oi : Oper} {N : Option Tmp} {a : Act} {w : World} {K : Act → World → Prop} {xs : Array Operand} {ts : Array TypeId} {x : Operand} {args : Array Value} (G : FuncId) (fi ca : Array Value)
    (hw : Region.wanted oi (yielded ops a.tmps) = true) (hN : oi.dst = N) (hop : oi.op = .call { callee := .value x, args := xs, argTypes := ts }) (hargs : xs.map a.eval = args) (hx : a.eval x = .func (.func G) fi ca)
    (he : ∀ (args_ : Array Value) (w_ : World), (callFunc G args_).run P w_ = .ok (.enter G args_) w_)
    (h : Calls P G (fi ++ args ++ ca) w fun e w' => ∃ v, e = .returned v ∧ K (a.put N v) w') : if Region.wanted oi (yielded ops a.tmps) = true then Oper.wp P oi a w K Q else K (a.put N undef) w := by
  refine call_ G (fi ++ args ++ ca) hw hN ?_ h
  have he := he (fi ++ args ++ ca) w
  rw [Array.append_assoc] at he
  unfold execOp
  simp [hop, resolve, Deferred.ofValue, invoke, hargs, hx, he]
/-! ### impl_kernelOf_1: function 143 -/
def impl_kernelOf_1.f (a0_0 : Int) (a1_0 : Int) (l1_1 : List Int) (a2_0 : Int) (a3_0 : Bool) : Option (Bool) := (impl_within.f a0_0 0 11).bind fun t828 => (if t828 = true then ((impl_Moments_field.f a1_0 l1_1).bind fun t829 => ((impl_field_has.f t829 a2_0).bind fun t830 => (if t830 = true then (some a3_0) else (some false)))) else (some false))
def impl_kernelOf_1.T1 : Bool × List (List Nat × List Nat) := (true, [([], []), ([0], [0]), ([1, 1], [1]), ([2], [2]), ([3, 2, 2], [2, 3]), ([2], [2]), ([4, 5, 4, 2], [2, 4, 5]), ([2, 6], [2, 6]), ([7, 6], [7]), ([8], [8]), ([9, 8, 8], [8, 9]), ([8, 10], [8, 10]), ([11, 10, 0, 1, 2, 3, 4, 5, 6, 7, 8, 9, 10, 11], [11])])
def impl_kernelOf_1.B1 : List Nat := [0, 1, 3, 7, 15, 7, 63, 127, 255, 511, 1023, 2047, 4095]
theorem impl_kernelOf_1.tab1 : rtab .any (opsOf Try.f143 1) = impl_kernelOf_1.T1 := by kernel_rfl
theorem impl_kernelOf_1.bits1 : waitsOk impl_kernelOf_1.T1.2 impl_kernelOf_1.B1 = true := by kernel_rfl
set_option maxHeartbeats 8000000 in
set_option maxRecDepth 100000 in
theorem impl_kernelOf_1.calls (gc0 : Nat) (a0_0 : Int) (gc1 : Nat) (a1_0 : Int) (A1_1 : Option Addr) (c1_1 : Nat) (l1_1 : List Int) (gc2 : Nat) (a2_0 : Int) (gc3 : Nat) (F3_0 : Value) (a3_0 : Bool) (r : Bool) (w : World) (hb0 : w.heap[gc0]? = some (.cells #[.int .i64 a0_0] 2 (0, 0))) (hb1 : w.heap[gc1]? = some (.cells #[.int .i64 a1_0, .slice A1_1 l1_1.length c1_1] 40 (0, 0))) (hr1_1 : Kd.C (Kd.int .i64) w A1_1 l1_1.length l1_1) (hc1_1 : l1_1.length ≤ c1_1) (hb2 : w.heap[gc2]? = some (.cells #[.int .i64 a2_0] 2 (0, 0))) (hb3 : w.heap[gc3]? = some (.cells #[F3_0] 81 (0, 0))) (hF3_0 : FnB Try.prog w F3_0 a3_0) (h : impl_kernelOf_1.f a0_0 a1_0 l1_1 a2_0 a3_0 = some r) :
  Calls Try.prog 143 #[.pointer (some ⟨gc0, 0, none⟩), .pointer (some ⟨gc1, 0, none⟩), .pointer (some ⟨gc2, 0, none⟩), .pointer (some ⟨gc3, 0, none⟩)] w fun e w' => e = .returned (.bool r) ∧ Below w.heap.size w w' := by
 have hu40 := Try.underlying40
 have HR1_1 := zA hr1_1
 have HC1_1 := zA hc1_1
 clear hr1_1 hc1_1
 obtain ⟨G3_0, fi3_0, ca3_0, rfl, hen3_0, hF3_0⟩ := hF3_0
 have hen3_0 : ∀ (args_ : Array Value) (w_ : World), (callFunc G3_0 args_).run Try.prog w_ = .ok (.enter G3_0 args_) w_ := hen3_0
 have HF3_0 := zA hF3_0
 clear hF3_0
 have BK0 := zA hb0
 clear hb0
 have BK1 := zA hb1
 clear hb1
 have BK2 := zA hb2
 clear hb2
 have BK3 := zA hb3
 clear hb3
 have HB := zA (Below.refl w.heap.size w)
 have H : ((impl_within.f a0_0 0 11).bind fun t828 => (if t828 = true then ((impl_Moments_field.f a1_0 l1_1).bind fun t829 => ((impl_field_has.f t829 a2_0).bind fun t830 => (if t830 = true then (some a3_0) else (some false)))) else (some false))) = some r := h
 clear h
 replace H := Option.bind_eq_some_iff.mp H
 obtain ⟨t828, A50, H⟩ := H
 replace H : (if t828 = true then ((impl_Moments_field.f a1_0 l1_1).bind fun t829 => ((impl_field_has.f t829 a2_0).bind fun t830 => (if t830 = true then (some a3_0) else (some false)))) else (some false)) = some r := H
 have A5 := zA A50
 clear A50
 by_cases c6 : t828 = true
 ·subst c6
  have H1 : ((impl_Moments_field.f a1_0 l1_1).bind fun t829 => ((impl_field_has.f t829 a2_0).bind fun t830 => (if t830 = true then (some a3_0) else (some false)))) = some r := by rw [if_pos rfl] at H; exact H
  clear H
  have H := H1
  clear H1
  replace H := Option.bind_eq_some_iff.mp H
  obtain ⟨t829, A70, H⟩ := H
  replace H : ((impl_field_has.f t829 a2_0).bind fun t830 => (if t830 = true then (some a3_0) else (some false))) = some r := H
  have A7 := zA A70
  clear A70
  replace H := Option.bind_eq_some_iff.mp H
  obtain ⟨t830, A80, H⟩ := H
  replace H : (if t830 = true then (some a3_0) else (some false)) = some r := H
  have A8 := zA A80
  clear A80
  by_cases c9 : t830 = true
  ·subst c9
   have H1 : (some a3_0) = some r := by rw [if_pos rfl] at H; exact H
   clear H
   have H := H1
   clear H1
   obtain rfl := Option.some.inj H
   go_enter Try.func143, Try.ntmps143
   try go_wp2
   replace BK0 := zA (blk_drew BK0.out)
   replace BK1 := zA (blk_drew BK1.out)
   replace BK2 := zA (blk_drew BK2.out)
   replace BK3 := zA (blk_drew BK3.out)
   replace HB := zA (below_drew1 HB.out)
   refine start_ (n := 13) (S := fun w' => w'.cell? ⟨gc0, 0, none⟩ = some (.int .i64 a0_0) ∧ w'.cell? ⟨gc1, 0, none⟩ = some (.int .i64 a1_0) ∧ w'.cell? ⟨gc1, 1, none⟩ = some (.slice A1_1 l1_1.length c1_1) ∧ w'.cell? ⟨gc2, 0, none⟩ = some (.int .i64 a2_0) ∧ w'.cell? ⟨gc3, 0, none⟩ = some ((.func (.func G3_0) fi3_0 ca3_0))) (ds := []) #[false, false, false, false, false, false, false, false, false, false, false, false, false] (by kernel_rfl) rfl rfl ⟨bcu BK0 0, bcu BK1 0, bcu BK1 1, bcu BK2 0, bcu BK3 0⟩ (fun hHeld => ?_); refine with_tabW impl_kernelOf_1.tab1 impl_kernelOf_1.bits1 (fun HT_ HW_ => ?_)
   generalize w.drew = w10 at BK0 BK1 BK2 BK3 HB hHeld ⊢
   refine ta_ 0 5 (bl 13 1) HT_ HW_ hHeld ?_
   refine on_ 1 (some 6) (bl 13 3) HT_ (fun K hK => ?_)
   refine gS Try.func121 #[.int .i64 a0_0, .int .i64 0, .int .i64 11] ?_
   with_reducible refine (impl_within.calls a0_0 0 11 true _ A5.out).mono ?_
   rintro e w' ⟨rfl, ⟨nd, rfl⟩⟩
   refine ⟨_, rfl, ?_⟩
   refine hK.out _ _ ⟨bcu BK0 0, bcu BK1 0, bcu BK1 1, bcu BK2 0, bcu BK3 0⟩ (fun hHeld => ?_)
   clear hK K
   refine no_ 6 ?_
   refine pu_ 2 7 (bl 13 7) HT_ ?_
   refine ta_ 3 8 (bl 13 15) HT_ HW_ hHeld ?_
   refine ta_ 5 10 (bl 13 47) HT_ HW_ hHeld ?_
   refine on_ 4 (some 9) (bl 13 63) HT_ (fun K hK => ?_)
   refine gS Try.func75 #[.agg #[.int .i64 a1_0, .slice A1_1 l1_1.length c1_1]] ?_
   with_reducible refine (impl_Moments_field.calls a1_0 _ _ l1_1 t829 _ ?side1 ?side2 A7.out).mono ?_
   (case side1 => repeat (first | exact (Kd.C_below HR1_1.out (uH HB.out)) | (with_reducible refine Kd.C_alloc ?_ _) | (with_reducible refine Kd.C_drewN ?_ _) | (with_reducible refine Kd.C_drew ?_)))
   (case side2 => exact HC1_1.out)
   rintro e w11 ⟨rfl, hb⟩
   refine ⟨_, rfl, ?_⟩
   replace BK0 := xB BK0 hb
   replace BK1 := xB BK1 hb
   replace BK2 := xB BK2 hb
   replace BK3 := xB BK3 hb
   replace HB := xH HB hb
   (try clear hb); (try clear hb2); (try clear hk); (try clear hi)
   refine hK.out _ _ ⟨bcu BK0 0, bcu BK1 0, bcu BK1 1, bcu BK2 0, bcu BK3 0⟩ (fun hHeld => ?_)
   clear hK K
   refine no_ 9 ?_
   refine on_ 6 (some 11) (bl 13 127) HT_ (fun K hK => ?_)
   refine gS Try.func99 #[.int .i64 t829, .int .i64 a2_0] ?_
   with_reducible refine (impl_field_has.calls t829 a2_0 true _ A8.out).mono ?_
   rintro e w' ⟨rfl, ⟨nd, rfl⟩⟩
   refine ⟨_, rfl, ?_⟩
   refine hK.out _ _ ⟨bcu BK0 0, bcu BK1 0, bcu BK1 1, bcu BK2 0, bcu BK3 0⟩ (fun hHeld => ?_)
   clear hK K
   refine no_ 11 ?_
   refine pu_ 7 12 (bl 13 255) HT_ ?_
   refine pu_ 8 13 (bl 13 511) HT_ ?_
   refine ta_ 9 14 (bl 13 1023) HT_ HW_ hHeld ?_
   refine on_ 10 (some 15) (bl 13 2047) HT_ (fun K hK => ?_)
   refine goesV_ G3_0 fi3_0 ca3_0 (by rfl) rfl rfl rfl (by first | rfl | (go_simp; done) | (go_simp; with_reducible rfl)) hen3_0 ?_
   refine calls_of_args (args' := fi3_0 ++ ca3_0) (by simp) ?_
   refine (HF3_0.out _ (uH HB.out)).mono ?_
   rintro e w12 ⟨rfl, hb⟩
   refine ⟨_, rfl, ?_⟩
   replace BK0 := xB BK0 hb
   replace BK1 := xB BK1 hb
   replace BK2 := xB BK2 hb
   replace BK3 := xB BK3 hb
   replace HB := xH HB hb
   (try clear hb)
   refine hK.out _ _ ⟨bcu BK0 0, bcu BK1 0, bcu BK1 1, bcu BK2 0, bcu BK3 0⟩ (fun hHeld => ?_)
   clear hK K
   refine no_ 15 ?_
   refine pu_ 11 16 (bl 13 4095) HT_ ?_
   refine pu_ 12 4 (bl 13 8191) HT_ ?_
   refine done_ (done_of HT_.out (by kernel_rfl)) ?_
   try go_wp2
   go_ret
   exact ⟨by first | rfl | (simp [errW_none, errW_some] <;> rfl) | (simp [*, errW_none, errW_some] <;> rfl), uH HB.out⟩
  ·replace c9 := Bool.eq_false_iff.mpr c9
   subst c9
   have H1 : (some false) = some r := by rw [if_neg (show ¬ (false = true) by decide)] at H; exact H
   clear H
   have H := H1
   clear H1
   obtain rfl := Option.some.inj H
   go_enter Try.func143, Try.ntmps143
   try go_wp2
   replace BK0 := zA (blk_drew BK0.out)
   replace BK1 := zA (blk_drew BK1.out)
   replace BK2 := zA (blk_drew BK2.out)
   replace BK3 := zA (blk_drew BK3.out)
   replace HB := zA (below_drew1 HB.out)
   refine start_ (n := 13) (S := fun w' => w'.cell? ⟨gc0, 0, none⟩ = some (.int .i64 a0_0) ∧ w'.cell? ⟨gc1, 0, none⟩ = some (.int .i64 a1_0) ∧ w'.cell? ⟨gc1, 1, none⟩ = some (.slice A1_1 l1_1.length c1_1) ∧ w'.cell? ⟨gc2, 0, none⟩ = some (.int .i64 a2_0)) (ds := []) #[false, false, false, false, false, false, false, false, false, false, false, false, false] (by kernel_rfl) rfl rfl ⟨bcu BK0 0, bcu BK1 0, bcu BK1 1, bcu BK2 0⟩ (fun hHeld => ?_); refine with_tabW impl_kernelOf_1.tab1 impl_kernelOf_1.bits1 (fun HT_ HW_ => ?_)
   generalize w.drew = w13 at BK0 BK1 BK2 BK3 HB hHeld ⊢
   refine ta_ 0 5 (bl 13 1) HT_ HW_ hHeld ?_
   refine on_ 1 (some 6) (bl 13 3) HT_ (fun K hK => ?_)
   refine gS Try.func121 #[.int .i64 a0_0, .int .i64 0, .int .i64 11] ?_
   with_reducible refine (impl_within.calls a0_0 0 11 true _ A5.out).mono ?_
   rintro e w' ⟨rfl, ⟨nd, rfl⟩⟩
   refine ⟨_, rfl, ?_⟩
   refine hK.out _ _ ⟨bcu BK0 0, bcu BK1 0, bcu BK1 1, bcu BK2 0⟩ (fun hHeld => ?_)
   clear hK K
   refine no_ 6 ?_
   refine pu_ 2 7 (bl 13 7) HT_ ?_
   refine ta_ 3 8 (bl 13 15) HT_ HW_ hHeld ?_
   refine ta_ 5 10 (bl 13 47) HT_ HW_ hHeld ?_
   refine on_ 4 (some 9) (bl 13 63) HT_ (fun K hK => ?_)
   refine gS Try.func75 #[.agg #[.int .i64 a1_0, .slice A1_1 l1_1.length c1_1]] ?_
   with_reducible refine (impl_Moments_field.calls a1_0 _ _ l1_1 t829 _ ?side1 ?side2 A7.out).mono ?_
   (case side1 => repeat (first | exact (Kd.C_below HR1_1.out (uH HB.out)) | (with_reducible refine Kd.C_alloc ?_ _) | (with_reducible refine Kd.C_drewN ?_ _) | (with_reducible refine Kd.C_drew ?_)))
   (case side2 => exact HC1_1.out)
   rintro e w14 ⟨rfl, hb⟩
   refine ⟨_, rfl, ?_⟩
   replace BK0 := xB BK0 hb
   replace BK1 := xB BK1 hb
   replace BK2 := xB BK2 hb
   replace BK3 := xB BK3 hb
   replace HB := xH HB hb
   (try clear hb); (try clear hb2); (try clear hk); (try clear hi)
   refine hK.out _ _ ⟨bcu BK0 0, bcu BK1 0, bcu BK1 1, bcu BK2 0⟩ (fun hHeld => ?_)
   clear hK K
   refine no_ 9 ?_
   refine on_ 6 (some 11) (bl 13 127) HT_ (fun K hK => ?_)
   refine gS Try.func99 #[.int .i64 t829, .int .i64 a2_0] ?_
   with_reducible refine (impl_field_has.calls t829 a2_0 false _ A8.out).mono ?_
   rintro e w' ⟨rfl, ⟨nd, rfl⟩⟩
   refine ⟨_, rfl, ?_⟩
   refine hK.out _ _ ⟨bcu BK0 0, bcu BK1 0, bcu BK1 1, bcu BK2 0⟩ (fun hHeld => ?_)
   clear hK K
   refine no_ 11 ?_
   refine pu_ 7 12 (bl 13 255) HT_ ?_
   refine pu_ 8 13 (bl 13 511) HT_ ?_
   refine un_ 9 14 (bl 13 1023) HT_ ?_
   refine un_ 10 15 (bl 13 2047) HT_ ?_
   refine pu_ 11 16 (bl 13 4095) HT_ ?_
   refine pu_ 12 4 (bl 13 8191) HT_ ?_
   refine done_ (done_of HT_.out (by kernel_rfl)) ?_
   try go_wp2
   go_ret
   exact ⟨by first | rfl | (simp [errW_none, errW_some] <;> rfl) | (simp [*, errW_none, errW_some] <;> rfl), uH HB.out⟩
 ·replace c6 := Bool.eq_false_iff.mpr c6
  subst c6
  have H1 : (some false) = some r := by rw [if_neg (show ¬ (false = true) by decide)] at H; exact H
  clear H
  have H := H1
  clear H1
  obtain rfl := Option.some.inj H
  go_enter Try.func143, Try.ntmps143
  try go_wp2
  replace BK0 := zA (blk_drew BK0.out)
  replace BK1 := zA (blk_drew BK1.out)
  replace BK2 := zA (blk_drew BK2.out)
  replace BK3 := zA (blk_drew BK3.out)
  replace HB := zA (below_drew1 HB.out)
  refine start_ (n := 13) (S := fun w' => w'.cell? ⟨gc0, 0, none⟩ = some (.int .i64 a0_0)) (ds := []) #[false, false, false, false, false, false, false, false, false, false, false, false, false] (by kernel_rfl) rfl rfl (bcu BK0 0) (fun hHeld => ?_); refine with_tabW impl_kernelOf_1.tab1 impl_kernelOf_1.bits1 (fun HT_ HW_ => ?_)
  generalize w.drew = w15 at BK0 BK1 BK2 BK3 HB hHeld ⊢
  refine take_ (i := 0) (N := some 5) (v := ?_) (a' := ?_) (bl 13 1) rfl rfl (take_ofW HT_.out HW_.out (by kernel_rfl)) (fun _ _ _ h => h) (Or.inl ⟨by rfl, ?_⟩) hHeld ?_ ?_
  rotate_left
  ·intro w' s0
   go_simp
   with_reducible rfl
  rotate_left
  ·simp only [Act.put, ls, lz, ln, i64_w, i32_w]
   rfl
  refine on_ 1 (some 6) (bl 13 3) HT_ (fun K hK => ?_)
  refine gS Try.func121 #[.int .i64 a0_0, .int .i64 0, .int .i64 11] ?_
  with_reducible refine (impl_within.calls a0_0 0 11 false _ A5.out).mono ?_
  rintro e w' ⟨rfl, ⟨nd, rfl⟩⟩
  refine ⟨_, rfl, ?_⟩
  refine hK.out _ _ (bcu BK0 0) (fun hHeld => ?_)
  clear hK K
  refine no_ 6 ?_
  refine pu_ 2 7 (bl 13 7) HT_ ?_
  refine un_ 3 8 (bl 13 15) HT_ ?_
  refine un_ 4 9 (bl 13 31) HT_ ?_
  refine un_ 5 10 (bl 13 63) HT_ ?_
  refine un_ 6 11 (bl 13 127) HT_ ?_
  refine pu_ 7 12 (bl 13 255) HT_ ?_
  refine pu_ 8 13 (bl 13 511) HT_ ?_
  refine un_ 9 14 (bl 13 1023) HT_ ?_
  refine un_ 10 15 (bl 13 2047) HT_ ?_
  refine pu_ 11 16 (bl 13 4095) HT_ ?_
  refine pu_ 12 4 (bl 13 8191) HT_ ?_
  refine done_ (done_of HT_.out (by kernel_rfl)) ?_
  try go_wp2
  go_ret
  exact ⟨by first | rfl | (simp [errW_none, errW_some] <;> rfl) | (simp [*, errW_none, errW_some] <;> rfl), uH HB.out⟩
end Go.Proofs.Ytfbnkebgdmfcfaa.Pr
