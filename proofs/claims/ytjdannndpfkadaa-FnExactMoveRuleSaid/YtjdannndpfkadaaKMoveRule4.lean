/- Texts of this session in one: what functions of the program compute, and plain facts of it, under the conditions that each theorem names. -/
import Derived.Test.YtjdannndpfkadaaKMoveRule1
import Derived.Test.YtjdannndpfkadaaKMoveRule3
namespace Go.Proofs.Ytjdannndpfkadaa.Pr
open Go.RowKit Go.Proofs.YtjdannndpfkadaaW.PrintWords Go.Proofs.YtjdannndpfkadaaW.PrintLast Go.Proofs.YtjdannndpfkadaaW.PrintMore
attribute [local go_sem] max2_int min2_int max_two min_two max_three min_three max_four min_four   -- for this text's walks alone
set_option linter.unusedVariables false
set_option linter.unusedSimpArgs false
/-! ### spec_l01Own: function 41 -/
def spec_l01Own.f (l0 : List Int) : Option (List Int) := (some (([] : List Int) : List Int)).bind fun y268 => (if y268.length + l0.length < 17592186044416 then (some (y268 ++ l0)) else (none))
set_option maxHeartbeats 8000000 in
set_option maxRecDepth 100000 in
theorem spec_l01Own.calls (A0 : Option Addr) (c0 : Nat) (l0 : List Int) (r : List Int) (w : World) (hr0 : Kd.C (Kd.int .i64) w A0 l0.length l0) (hc0 : l0.length ≤ c0) (h : spec_l01Own.f l0 = some r) :
  Calls Try.prog 41 #[.slice A0 l0.length c0] w fun e w' => ∃ v0_ : Value, e = .returned (v0_) ∧ Kd.R (Kd.int .i64) 2 w' w.heap.size (fun _ => True) v0_ r ∧ Below w.heap.size w w' := by
 have HR0 := zA hr0
 have HC0 := zA hc0
 clear hr0 hc0
 have HB := zA (Below.refl w.heap.size w)
 have H : ((some (([] : List Int) : List Int)).bind fun y268 => (if y268.length + l0.length < 17592186044416 then (some (y268 ++ l0)) else (none))) = some r := h
 clear h
 obtain ⟨y268, hy268⟩ : ∃ y_ : List Int, y_ = (([] : List Int)) := ⟨_, rfl⟩
 replace H : (if y268.length + l0.length < 17592186044416 then (some (y268 ++ l0)) else (none)) = some r := by first | (rw [hy268]; exact H) | exact H
 have Ny268 := zA hy268
 clear hy268
 by_cases c2 : y268.length + l0.length < 17592186044416
 rotate_left
 ·rw [if_neg c2] at H
  exact absurd H (by simp)

 rw [if_pos c2] at H
 have LMc2 := zA c2
 clear c2
 obtain ⟨y271, hy271⟩ : ∃ y_ : List Int, y_ = (y268 ++ l0) := ⟨_, rfl⟩
 replace H : (some y271) = some r := by first | (rw [hy271]; exact H) | exact H
 have Ny271 := zA hy271
 clear hy271
 obtain rfl := Option.some.inj H
 go_enter Try.func41, Try.ntmps41
 go_wp2_with (first | ((with_reducible refine gate_dst (N := 3) rfl ?_); refine Kd.R_lit (Kd.int .i64) _ 2 ?hg (N := 3) ?hd (xs := ([] : List Int)) (inner := []) (ok := fun _ => True) (okp := fun _ => True) ?hr ?hp (fun _ hk => hk) trivial (Below.refl _ _) (Nat.le_refl _) (by simp) ?_; (case hd => rfl); (case hg => rfl); (case hr => first | (go_simp; done) | (go_simp; rfl)); (case hp => exact (Reps.none _ _)); intro v269 w3 ho4 hb hg_ hnew_; clear hg_ hnew_; (first | rw [← Ny268.out] at ho4 | (simp only [Int.reduceToNat] at ho4; rw [← Ny268.out] at ho4)); have HO270 := zA (Kd.R_lower ho4 (below_size (uH HB.out))); replace HB := xH HB hb; clear hb ho4) | ((with_reducible refine gate_builtin (b := .append) (xs := #[.tmp 3, .tmp 4]) rfl ?_); at_builtin; refine Kd.R_append_rows (Kd.int .i64) (w0 := w) w.heap.size rfl (.tmp 3) (.tmp 4) 22 2 (.int .i64 0) 8 rfl Try.underlying22 info2 rfl (by decide) (by omega) v269 y268 l0 _ _ _ (fun _ => True) (fun _ => False) rfl rfl ?aO ?aR (fun _ _ h => h) (fun _ h => h.elim) ?aF ?aB ?aS ?aL ?_; (case aR => exact uC ((Kd.C_below HR0.out HB.out))); (case aB => exact (uH HB.out)); (case aF => exact (fun _ _ => trivial)); (case aO => exact (uR HO270.out)); (case aS => exact (below_size (uH HB.out))); (case aL => have := LMc2.out; omega); intro v272 w5 ho hb hg hat; rw [← Ny271.out] at ho; replace HB := zA (hb); have HO273 := zA (ho); clear HO270 ho hb hg hat))
 go_ret
 exact ⟨_, by first | rfl | (simp [errW_none, errW_some] <;> rfl) | (simp [*, errW_none, errW_some] <;> rfl), uR HO273.out, uH HB.out⟩
/-! ### spec_l01Prime: function 62 -/
def spec_l01Prime.l0 : Nat → Int → Int → Option (Bool)
 | 0, _, _ => none
 | k + 1, x0, x3 => if (wrap64 (x3 * x3)) ≤ x0 then (if x3 = 0 then (none) else (if (Int.tmod x0 x3) = 0 then (some false) else (spec_l01Prime.l0 k x0 (wrap64 (x3 + 1))))) else (some true)
def spec_l01Prime.f (k : Nat) (a0 : Int) : Option (Bool) := (spec_l01In.f a0 2 10007).bind fun t104 => (if t104 = true then (spec_l01Prime.l0 k a0 2) else (some false))
theorem spec_l01Prime.mono_l : ∀ k, (∀ y0 y1, LeO (spec_l01Prime.l0 k y0 y1) (spec_l01Prime.l0 (k + 1) y0 y1))
 | 0 => fun _ _ r h => by simp [spec_l01Prime.l0] at h
 | k + 1 => by
  have ih0 := spec_l01Prime.mono_l k
  ·intro y0 y1
   unfold spec_l01Prime.l0
   repeat' first
   | (with_reducible exact ih0 _ _)
   | (with_reducible exact LeO.refl _)
   | (with_reducible exact LeO.none _)
   | (with_reducible refine LeO.ite ?_ ?_)
   | (with_reducible refine LeO.bind ?_ (fun _ => ?_))
   | exact ih0 _ _
   | exact LeO.none _
   | refine LeO.ite ?_ ?_
   | refine LeO.bind ?_ (fun _ => ?_)
theorem spec_l01Prime.mono : ∀ a0 k, LeO (spec_l01Prime.f k a0) (spec_l01Prime.f (k + 1) a0) := by
 intro a0 k
 have ih0 := spec_l01Prime.mono_l k
 unfold spec_l01Prime.f
 repeat' first
   | (with_reducible exact ih0 _ _)
   | (with_reducible exact LeO.refl _)
   | (with_reducible exact LeO.none _)
   | (with_reducible refine LeO.ite ?_ ?_)
   | (with_reducible refine LeO.bind ?_ (fun _ => ?_))
   | exact ih0 _ _
   | exact LeO.none _
   | refine LeO.ite ?_ ?_
   | refine LeO.bind ?_ (fun _ => ?_)
set_option maxHeartbeats 8000000 in
set_option maxRecDepth 100000 in
theorem spec_l01Prime.calls (k : Nat) (a0 : Int) (r : Bool) (w : World) (h : spec_l01Prime.f k a0 = some r) :
  Calls Try.prog 62 #[.int .i64 a0] w fun e w' => e = .returned (.bool r) ∧ Drawn0 w w' := by
 have H : ((spec_l01In.f a0 2 10007).bind fun t104 => (if t104 = true then (spec_l01Prime.l0 k a0 2) else (some false))) = some r := h
 clear h
 replace H := Option.bind_eq_some_iff.mp H
 obtain ⟨t104, A20, H⟩ := H
 replace H : (if t104 = true then (spec_l01Prime.l0 k a0 2) else (some false)) = some r := H
 have A2 := zA A20
 clear A20
 by_cases c3 : t104 = true
 ·subst c3
  have H1 : (spec_l01Prime.l0 k a0 2) = some r := by rw [if_pos rfl] at H; exact H
  clear H
  have H := H1
  clear H1
  have H' := zA H
  clear H
  go_enter Try.func62, Try.ntmps62
  go_wp2_with (first | ((with_reducible refine gate_callee (f := 53) rfl ?_); refine gL (some 5) Try.func53 #[.int .i64 a0, .int .i64 2, .int .i64 10007] ?_; (with_reducible refine (spec_l01In.calls a0 2 10007 true _ A2.out).mono ?_); rintro e w' ⟨rfl, ⟨nd, rfl⟩⟩; refine ⟨_, rfl, ?_⟩))
  go_loopg [3] k (fun kq v3 w' => ∃ (x3_1 : Int), v3 = .int .i64 x3_1 ∧ Aside0 (spec_l01Prime.l0 kq a0 x3_1 = some r) ∧ Aside0 (kq ≤ k) ∧ Drawn0 w w')
  case atStart => exact ⟨(2), (by first | rfl | (simp; done) | (simp [*]; done)), H', ⟨Nat.le_refl _⟩, by repeat (first | exact Drawn0.refl _ | apply Drawn0.step)⟩
  case round =>
   clear H'
   (try clear p2);(try clear c3)
   obtain ⟨x3_1, rfl, HA, HK1, ⟨m1, rfl⟩⟩ := hrel
   cases gk with
   | zero => exact absurd HA.out (by simp [spec_l01Prime.l0])
   | succ k1 =>
    have H := HA.out
    clear HA
    simp only [spec_l01Prime.l0] at H
    by_cases c4 : (wrap64 (x3_1 * x3_1)) ≤ a0
    rotate_left
    ·rw [if_neg c4] at H
     have c4b0 : decide ((wrap64 (x3_1 * x3_1)) ≤ a0) = false := decide_eq_false c4
     clear c4
     obtain rfl := Option.some.inj H
     go_wp2
     go_ret
     exact ⟨by first | rfl | (simp; done) | (simp [*]; done), by repeat (first | exact Drawn0.refl _ | apply Drawn0.step)⟩
    rw [if_pos c4] at H
    have c4b0 : decide ((wrap64 (x3_1 * x3_1)) ≤ a0) = true := decide_eq_true c4
    clear c4
    by_cases c5 : x3_1 = 0
    rotate_left
    ·rw [if_neg c5] at H
     have c5b0 : (x3_1 == 0) = false := beq_eq_false_iff_ne.mpr c5
     have c5b1 : (x3_1 != 0) = true := bne_iff_ne.mpr c5
     by_cases c6 : (Int.tmod a0 x3_1) = 0
     rotate_left
     ·rw [if_neg c6] at H
      have c6b0 : ((Int.tmod a0 x3_1) == 0) = false := beq_eq_false_iff_ne.mpr c6
      have c6b1 : ((Int.tmod a0 x3_1) != 0) = true := bne_iff_ne.mpr c6
      have H' := zA H
      clear H
      go_wp2
      go_roundg k1
      case measure => have := HK1.out; omega
      case rel => exact ⟨(wrap64 (x3_1 + 1)), (by first | rfl | (simp; done) | (simp [*]; done)), H', ⟨by have := HK1.out; omega⟩, by repeat (first | exact Drawn0.refl _ | apply Drawn0.step)⟩
     rw [if_pos c6] at H
     have c6b0 : ((Int.tmod a0 x3_1) == 0) = true := beq_iff_eq.mpr c6
     have c6b1 : ((Int.tmod a0 x3_1) != 0) = false := bne_eq_false_iff_eq.mpr c6
     clear c6
     obtain rfl := Option.some.inj H
     go_wp2
     go_ret
     exact ⟨by first | rfl | (simp; done) | (simp [*]; done), by repeat (first | exact Drawn0.refl _ | apply Drawn0.step)⟩
    rw [if_pos c5] at H
    exact absurd H (by simp)
 ·replace c3 := Bool.eq_false_iff.mpr c3
  subst c3
  have H1 : (some false) = some r := by rw [if_neg (show ¬ (false = true) by decide)] at H; exact H
  clear H
  have H := H1
  clear H1
  obtain rfl := Option.some.inj H
  go_enter Try.func62, Try.ntmps62
  go_wp2_with (first | ((with_reducible refine gate_callee (f := 53) rfl ?_); refine gL (some 5) Try.func53 #[.int .i64 a0, .int .i64 2, .int .i64 10007] ?_; (with_reducible refine (spec_l01In.calls a0 2 10007 false _ A2.out).mono ?_); rintro e w' ⟨rfl, ⟨nd, rfl⟩⟩; refine ⟨_, rfl, ?_⟩))
  go_ret
  exact ⟨by first | rfl | (simp; done) | (simp [*]; done), by repeat (first | exact Drawn0.refl _ | apply Drawn0.step)⟩
/-! ### spec_l03Is: function 35 -/
mutual
def spec_l03Is.j0 : Nat → Bool → Int → List Int → List Int → Option (Bool)
 | 0, _, _, _, _ => none
 | k + 1, x28, x106000, x106001, x106002 => if x28 = true then (some false) else (spec_l03Is.l0 k 0 x106000 x106001 x106002)
def spec_l03Is.l0 : Nat → Int → Int → List Int → List Int → Option (Bool)
 | 0, _, _, _, _ => none
 | k + 1, x3, x106000, x106001, x106002 => if x3 < (x106001.length : Int) then (if 0 ≤ x3 then ((spec_l01In.f (rd x106001 x3) 0 (wrap64 (x106000 - 1))).bind fun t108 => (if t108 = true then (if x3 < (x106002.length : Int) then ((spec_l01In.f (rd x106002 x3) 1 (wrap64 (x106000 - 1))).bind fun t110 => (if t110 = true then (spec_l03Is.l0 k (wrap64 (x3 + 1)) x106000 x106001 x106002) else (some false))) else (none)) else (some false))) else (none)) else (some true)
end
def spec_l03Is.f (k : Nat) (a0_0 : Int) (l0_1 : List Int) (l0_2 : List Int) : Option (Bool) := (spec_l01Prime.f k a0_0).bind fun t106 => (if t106 = true then (if (l0_1.length : Int) < 1 then (spec_l03Is.j0 k true a0_0 l0_1 l0_2) else (if (l0_1.length : Int) > 12 then (spec_l03Is.j0 k true a0_0 l0_1 l0_2) else (spec_l03Is.j0 k ((l0_2.length : Int) != (l0_1.length : Int)) a0_0 l0_1 l0_2))) else (spec_l03Is.j0 k true a0_0 l0_1 l0_2))
theorem spec_l03Is.mono_l : ∀ k, (∀ y0 y1 y2 y3, LeO (spec_l03Is.j0 k y0 y1 y2 y3) (spec_l03Is.j0 (k + 1) y0 y1 y2 y3)) ∧ (∀ y0 y1 y2 y3, LeO (spec_l03Is.l0 k y0 y1 y2 y3) (spec_l03Is.l0 (k + 1) y0 y1 y2 y3))
 | 0 => ⟨fun _ _ _ _ r h => by simp [spec_l03Is.j0] at h, fun _ _ _ _ r h => by simp [spec_l03Is.l0] at h⟩
 | k + 1 => by
  obtain ⟨ih0, ih1⟩ := spec_l03Is.mono_l k
  refine ⟨?_, ?_⟩
  ·intro y0 y1 y2 y3
   unfold spec_l03Is.j0
   repeat' first
   | (with_reducible exact ih0 _ _ _ _)
   | (with_reducible exact ih1 _ _ _ _)
   | (with_reducible exact spec_l01Prime.mono _ _)
   | (with_reducible exact LeO.refl _)
   | (with_reducible exact LeO.none _)
   | (with_reducible refine LeO.ite ?_ ?_)
   | (with_reducible refine LeO.bind ?_ (fun _ => ?_))
   | exact ih0 _ _ _ _
   | exact ih1 _ _ _ _
   | exact spec_l01Prime.mono _ _
   | exact LeO.none _
   | refine LeO.ite ?_ ?_
   | refine LeO.bind ?_ (fun _ => ?_)
  ·intro y0 y1 y2 y3
   unfold spec_l03Is.l0
   repeat' first
   | (with_reducible exact ih0 _ _ _ _)
   | (with_reducible exact ih1 _ _ _ _)
   | (with_reducible exact spec_l01Prime.mono _ _)
   | (with_reducible exact LeO.refl _)
   | (with_reducible exact LeO.none _)
   | (with_reducible refine LeO.ite ?_ ?_)
   | (with_reducible refine LeO.bind ?_ (fun _ => ?_))
   | exact ih0 _ _ _ _
   | exact ih1 _ _ _ _
   | exact spec_l01Prime.mono _ _
   | exact LeO.none _
   | refine LeO.ite ?_ ?_
   | refine LeO.bind ?_ (fun _ => ?_)
theorem spec_l03Is.mono : ∀ a0 a1 a2 k, LeO (spec_l03Is.f k a0 a1 a2) (spec_l03Is.f (k + 1) a0 a1 a2) := by
 intro a0 a1 a2 k
 obtain ⟨ih0, ih1⟩ := spec_l03Is.mono_l k
 unfold spec_l03Is.f
 repeat' first
   | (with_reducible exact ih0 _ _ _ _)
   | (with_reducible exact ih1 _ _ _ _)
   | (with_reducible exact spec_l01Prime.mono _ _)
   | (with_reducible exact LeO.refl _)
   | (with_reducible exact LeO.none _)
   | (with_reducible refine LeO.ite ?_ ?_)
   | (with_reducible refine LeO.bind ?_ (fun _ => ?_))
   | exact ih0 _ _ _ _
   | exact ih1 _ _ _ _
   | exact spec_l01Prime.mono _ _
   | exact LeO.none _
   | refine LeO.ite ?_ ?_
   | refine LeO.bind ?_ (fun _ => ?_)
def spec_l03Is.T6 : Bool × List (List Nat × List Nat) := (true, [([], []), ([0], [0]), ([], []), ([1, 2], [1, 2]), ([3], [3]), ([], []), ([5], [5]), ([6], [6]), ([4, 7], [4, 7]), ([8], [8]), ([9, 8], [9]), ([10], [10]), ([11, 10], [10, 11]), ([10], [10]), ([12, 13, 10], [10, 12, 13]), ([14, 10], [10, 14]), ([10], [10]), ([16, 10], [10, 16]), ([17, 10], [10, 17]), ([15, 18, 10, 10], [10, 15, 18]), ([19, 10], [10, 19]), ([10, 20], [10, 20])])
def spec_l03Is.B6 : List Nat := [0, 1, 0, 7, 15, 0, 32, 96, 255, 511, 1023, 2047, 4095, 2047, 16383, 32767, 2047, 67583, 198655, 524287, 1048575, 2097151]
theorem spec_l03Is.tab6 : rtab .any (opsOf Try.f35 6) = spec_l03Is.T6 := by kernel_rfl
theorem spec_l03Is.bits6 : waitsOk spec_l03Is.T6.2 spec_l03Is.B6 = true := by kernel_rfl
set_option maxHeartbeats 8000000 in
set_option maxRecDepth 100000 in
theorem spec_l03Is.calls (k : Nat) (a0_0 : Int) (A0_1 : Option Addr) (c0_1 : Nat) (l0_1 : List Int) (A0_2 : Option Addr) (c0_2 : Nat) (l0_2 : List Int) (r : Bool) (w : World) (hr0_1 : Kd.C (Kd.int .i64) w A0_1 l0_1.length l0_1) (hc0_1 : l0_1.length ≤ c0_1) (hr0_2 : Kd.C (Kd.int .i64) w A0_2 l0_2.length l0_2) (hc0_2 : l0_2.length ≤ c0_2) (h : spec_l03Is.f k a0_0 l0_1 l0_2 = some r) :
  Calls Try.prog 35 #[.agg #[.int .i64 a0_0, .slice A0_1 l0_1.length c0_1, .slice A0_2 l0_2.length c0_2]] w fun e w' => e = .returned (.bool r) ∧ Below w.heap.size w w' := by
 have hu29 := Try.underlying29
 have HR0_1 := zA hr0_1
 have HC0_1 := zA hc0_1
 clear hr0_1 hc0_1
 have HR0_2 := zA hr0_2
 have HC0_2 := zA hc0_2
 clear hr0_2 hc0_2
 have HB := zA (Below.refl w.heap.size w)
 have H : ((spec_l01Prime.f k a0_0).bind fun t106 => (if t106 = true then (if (l0_1.length : Int) < 1 then (spec_l03Is.j0 k true a0_0 l0_1 l0_2) else (if (l0_1.length : Int) > 12 then (spec_l03Is.j0 k true a0_0 l0_1 l0_2) else (spec_l03Is.j0 k ((l0_2.length : Int) != (l0_1.length : Int)) a0_0 l0_1 l0_2))) else (spec_l03Is.j0 k true a0_0 l0_1 l0_2))) = some r := h
 clear h
 have HC2 := zA H
 clear H
 go_enter Try.func35, Try.ntmps35
 go_upto_region 1 with (first | ((with_reducible refine gate_dst (N := 1) rfl ?_); (try (refine gate_guard (by rfl) ?_; dsimp only)); refine bx 1 #[.int .i64 a0_0, .slice A0_1 l0_1.length c0_1, .slice A0_2 l0_2.length c0_2] 29 ?_; intro gb105 hg w3 hbox hb; have BK105 := zA (hbox); have GW105 := gq HB hg; have GE105 := gq HB hg; replace HB := xH HB hb; have := geI GE105; clear hb hbox hg))
 (try simp only [Act.put, ls, lz, ln])
 go_cut [28] (fun v28 wc => ∃ (kq : Nat) (x28_1 : Bool), v28 = .bool x28_1 ∧ Aside0 (spec_l03Is.j0 kq x28_1 a0_0 l0_1 l0_2 = some r) ∧ Aside0 (kq ≤ k) ∧ Aside0 (wc.heap[gb105]? = some (.cells #[.int .i64 a0_0, (.slice A0_1 l0_1.length c0_1), (.slice A0_2 l0_2.length c0_2)] 29 (0, 0))) ∧ Aside0 (Below w.heap.size w wc))
 case first =>
  have H := HC2.out
  clear HC2
  replace H := Option.bind_eq_some_iff.mp H
  obtain ⟨t106, A40, H⟩ := H
  replace H : (if t106 = true then (if (l0_1.length : Int) < 1 then (spec_l03Is.j0 k true a0_0 l0_1 l0_2) else (if (l0_1.length : Int) > 12 then (spec_l03Is.j0 k true a0_0 l0_1 l0_2) else (spec_l03Is.j0 k ((l0_2.length : Int) != (l0_1.length : Int)) a0_0 l0_1 l0_2))) else (spec_l03Is.j0 k true a0_0 l0_1 l0_2)) = some r := H
  have A4 := zA A40
  clear A40
  by_cases c5 : t106 = true
  ·subst c5
   have H1 : (if (l0_1.length : Int) < 1 then (spec_l03Is.j0 k true a0_0 l0_1 l0_2) else (if (l0_1.length : Int) > 12 then (spec_l03Is.j0 k true a0_0 l0_1 l0_2) else (spec_l03Is.j0 k ((l0_2.length : Int) != (l0_1.length : Int)) a0_0 l0_1 l0_2))) = some r := by rw [if_pos rfl] at H; exact H
   clear H
   have H := H1
   clear H1
   by_cases c6 : (l0_1.length : Int) < 1
   rotate_left
   ·rw [if_neg c6] at H
    have c6b0 : decide ((l0_1.length : Int) < 1) = false := decide_eq_false c6
    have c6b1 : decide (l0_1.length < 1) = false := decide_eq_false (by omega)
    clear c6
    (first | rw [c6b0] | (simp only [i64_w, i32_w]; rw [c6b0]) | skip)
    by_cases c8 : (l0_1.length : Int) > 12
    rotate_left
    ·rw [if_neg c8] at H
     have c8b0 : decide (12 < (l0_1.length : Int)) = false := decide_eq_false c8
     have c8b1 : decide (12 < l0_1.length) = false := decide_eq_false (by omega)
     clear c8
     have H' := zA H
     clear H
     have hcz10_0 := bc BK105 0
     have hcz10_1 := bc BK105 1
     have hcz10_2 := bc BK105 2
     have hfz10_0 := bf BK105 0
     have hfz10_1 := bf BK105 1
     have hfz10_2 := bf BK105 2
     go_wp2_with (first | ((with_reducible refine gate_callee (f := 62) rfl ?_); refine gL (some 6) Try.func62 #[.int .i64 a0_0] ?_; (with_reducible refine (spec_l01Prime.calls k a0_0 true _ A4.out).mono ?_); rintro e w' ⟨rfl, ⟨nd, rfl⟩⟩; refine ⟨_, rfl, ?_⟩))
     go_meet
     case rel => exact ⟨_, (((l0_2.length : Int) != (l0_1.length : Int))), (by first | rfl | (simp; done) | (simp [*]; done)), H', ⟨by first | omega | exact Nat.le_refl _⟩, ⟨uB BK105.out⟩, ⟨uH HB.out⟩⟩
    rw [if_pos c8] at H
    have c8b0 : decide (12 < (l0_1.length : Int)) = true := decide_eq_true c8
    have c8b1 : decide (12 < l0_1.length) = true := decide_eq_true (by omega)
    clear c8
    have H' := zA H
    clear H
    have hcz9_0 := bc BK105 0
    have hcz9_1 := bc BK105 1
    have hcz9_2 := bc BK105 2
    have hfz9_0 := bf BK105 0
    have hfz9_1 := bf BK105 1
    have hfz9_2 := bf BK105 2
    go_wp2_with (first | ((with_reducible refine gate_callee (f := 62) rfl ?_); refine gL (some 6) Try.func62 #[.int .i64 a0_0] ?_; (with_reducible refine (spec_l01Prime.calls k a0_0 true _ A4.out).mono ?_); rintro e w' ⟨rfl, ⟨nd, rfl⟩⟩; refine ⟨_, rfl, ?_⟩))
    go_meet
    case rel => exact ⟨_, (true), (by first | rfl | (simp; done) | (simp [*]; done)), H', ⟨by first | omega | exact Nat.le_refl _⟩, ⟨uB BK105.out⟩, ⟨uH HB.out⟩⟩
   rw [if_pos c6] at H
   have c6b0 : decide ((l0_1.length : Int) < 1) = true := decide_eq_true c6
   have c6b1 : decide (l0_1.length < 1) = true := decide_eq_true (by omega)
   clear c6
   (first | rw [c6b0] | (simp only [i64_w, i32_w]; rw [c6b0]) | skip)
   have H' := zA H
   clear H
   have hcz7_0 := bc BK105 0
   have hcz7_1 := bc BK105 1
   have hcz7_2 := bc BK105 2
   have hfz7_0 := bf BK105 0
   have hfz7_1 := bf BK105 1
   have hfz7_2 := bf BK105 2
   go_wp2_with (first | ((with_reducible refine gate_callee (f := 62) rfl ?_); refine gL (some 6) Try.func62 #[.int .i64 a0_0] ?_; (with_reducible refine (spec_l01Prime.calls k a0_0 true _ A4.out).mono ?_); rintro e w' ⟨rfl, ⟨nd, rfl⟩⟩; refine ⟨_, rfl, ?_⟩))
   go_meet
   case rel => exact ⟨_, (true), (by first | rfl | (simp; done) | (simp [*]; done)), H', ⟨by first | omega | exact Nat.le_refl _⟩, ⟨uB BK105.out⟩, ⟨uH HB.out⟩⟩
  ·replace c5 := Bool.eq_false_iff.mpr c5
   subst c5
   have H1 : (spec_l03Is.j0 k true a0_0 l0_1 l0_2) = some r := by rw [if_neg (show ¬ (false = true) by decide)] at H; exact H
   clear H
   have H := H1
   clear H1
   have H' := zA H
   clear H
   have hcz11_0 := bc BK105 0
   have hcz11_1 := bc BK105 1
   have hcz11_2 := bc BK105 2
   have hfz11_0 := bf BK105 0
   have hfz11_1 := bf BK105 1
   have hfz11_2 := bf BK105 2
   go_wp2_with (first | ((with_reducible refine gate_callee (f := 62) rfl ?_); refine gL (some 6) Try.func62 #[.int .i64 a0_0] ?_; (with_reducible refine (spec_l01Prime.calls k a0_0 false _ A4.out).mono ?_); rintro e w' ⟨rfl, ⟨nd, rfl⟩⟩; refine ⟨_, rfl, ?_⟩))
   go_meet
   case rel => exact ⟨_, (true), (by first | rfl | (simp; done) | (simp [*]; done)), H', ⟨by first | omega | exact Nat.le_refl _⟩, ⟨uB BK105.out⟩, ⟨uH HB.out⟩⟩
 case rest =>
  clear HC2
  (try clear p2);(try clear c3);(try clear c5);(try clear c6);(try clear c6b0);(try clear c6b1);(try clear c8);(try clear c8b0);(try clear c8b1);(try clear hcz10_0);(try clear hcz10_1);(try clear hcz10_2);(try clear hcz11_0);(try clear hcz11_1);(try clear hcz11_2);(try clear hcz7_0);(try clear hcz7_1);(try clear hcz7_2);(try clear hcz9_0);(try clear hcz9_1);(try clear hcz9_2);(try clear hfz10_0);(try clear hfz10_1)
  (try clear hfz10_2);(try clear hfz11_0);(try clear hfz11_1);(try clear hfz11_2);(try clear hfz7_0);(try clear hfz7_1);(try clear hfz7_2);(try clear hfz9_0);(try clear hfz9_1);(try clear hfz9_2)
  obtain ⟨kq, x28_1, rfl, HA, HJ1, BK105, HB⟩ := hcut
  cases kq with
  | zero => exact absurd HA.out (by simp [spec_l03Is.j0])
  | succ kj1 =>
   have H := HA.out
   clear HA
   simp only [spec_l03Is.j0] at H
   by_cases c12 : x28_1 = true
   ·subst c12
    have H1 : (some false) = some r := by rw [if_pos rfl] at H; exact H
    clear H
    have H := H1
    clear H1
    obtain rfl := Option.some.inj H
    go_wp2
    go_ret
    exact ⟨by first | rfl | (simp [errW_none, errW_some] <;> rfl) | (simp [*, errW_none, errW_some] <;> rfl), uH HB.out⟩
   ·replace c12 := Bool.eq_false_iff.mpr c12
    subst c12
    have H1 : (spec_l03Is.l0 kj1 0 a0_0 l0_1 l0_2) = some r := by rw [if_neg (show ¬ (false = true) by decide)] at H; exact H
    clear H
    have H := H1
    clear H1
    have H' := zA H
    clear H
    go_wp2
    go_loopg [3] kj1 (fun kq v3 w' => ∃ (x3_2 : Int), v3 = .int .i64 x3_2 ∧ Aside0 (spec_l03Is.l0 kq x3_2 a0_0 l0_1 l0_2 = some r) ∧ Aside0 (kq ≤ kj1) ∧ Aside0 (w'.heap[gb105]? = some (.cells #[.int .i64 a0_0, (.slice A0_1 l0_1.length c0_1), (.slice A0_2 l0_2.length c0_2)] 29 (0, 0))) ∧ Aside0 (Below w.heap.size w w'))
    case atStart => exact ⟨(0), (by first | rfl | (simp; done) | (simp [*]; done)), H', ⟨Nat.le_refl _⟩, ⟨uB BK105.out⟩, ⟨uH HB.out⟩⟩
    case round =>
     clear H'
     (try clear c1);(try clear p2);(try clear c3);(try clear c5);(try clear c6);(try clear c6b0);(try clear c6b1);(try clear c8);(try clear c8b0);(try clear c8b1);(try clear c12);(try clear hcz10_0);(try clear hcz10_1);(try clear hcz10_2);(try clear hcz11_0);(try clear hcz11_1);(try clear hcz11_2);(try clear hcz7_0);(try clear hcz7_1);(try clear hcz7_2);(try clear hcz9_0);(try clear hcz9_1);(try clear hcz9_2)
     (try clear hfz10_0);(try clear hfz10_1);(try clear hfz10_2);(try clear hfz11_0);(try clear hfz11_1);(try clear hfz11_2);(try clear hfz7_0);(try clear hfz7_1);(try clear hfz7_2);(try clear hfz9_0);(try clear hfz9_1);(try clear hfz9_2);(try clear p2)
     obtain ⟨x3_2, rfl, HA, HK2, BK105, HB⟩ := hrel
     cases gk with
     | zero => exact absurd HA.out (by simp [spec_l03Is.l0])
     | succ k2 =>
      have H := HA.out
      clear HA
      simp only [spec_l03Is.l0] at H
      by_cases c13 : x3_2 < (l0_1.length : Int)
      rotate_left
      ·rw [if_neg c13] at H
       have c13b0 : decide (x3_2 < (l0_1.length : Int)) = false := decide_eq_false c13
       clear c13
       obtain rfl := Option.some.inj H
       have hcz26_0 := bc BK105 0
       have hcz26_1 := bc BK105 1
       have hcz26_2 := bc BK105 2
       have hfz26_0 := bf BK105 0
       have hfz26_1 := bf BK105 1
       have hfz26_2 := bf BK105 2
       go_wp2
       go_ret
       exact ⟨by first | rfl | (simp [errW_none, errW_some] <;> rfl) | (simp [*, errW_none, errW_some] <;> rfl), uH HB.out⟩

      rw [if_pos c13] at H
      have c13b0 : decide (x3_2 < (l0_1.length : Int)) = true := decide_eq_true c13
      clear c13
      by_cases c14 : 0 ≤ x3_2
      rotate_left
      ·rw [if_neg c14] at H
       exact absurd H (by simp)
      rw [if_pos c14] at H
      have c14b0 : decide (0 ≤ x3_2) = true := decide_eq_true c14
      clear c14
      replace H := Option.bind_eq_some_iff.mp H
      obtain ⟨t108, A150, H⟩ := H
      replace H : (if t108 = true then (if x3_2 < (l0_2.length : Int) then ((spec_l01In.f (rd l0_2 x3_2) 1 (wrap64 (a0_0 - 1))).bind fun t110 => (if t110 = true then (spec_l03Is.l0 k2 (wrap64 (x3_2 + 1)) a0_0 l0_1 l0_2) else (some false))) else (none)) else (some false)) = some r := H
      have A15 := zA A150
      clear A150
      by_cases c16 : t108 = true
      ·subst c16
       have H1 : (if x3_2 < (l0_2.length : Int) then ((spec_l01In.f (rd l0_2 x3_2) 1 (wrap64 (a0_0 - 1))).bind fun t110 => (if t110 = true then (spec_l03Is.l0 k2 (wrap64 (x3_2 + 1)) a0_0 l0_1 l0_2) else (some false))) else (none)) = some r := by rw [if_pos rfl] at H; exact H
       clear H
       have H := H1
       clear H1
       by_cases c17 : x3_2 < (l0_2.length : Int)
       rotate_left
       ·rw [if_neg c17] at H
        exact absurd H (by simp)
       rw [if_pos c17] at H
       have c17b0 : decide (x3_2 < (l0_2.length : Int)) = true := decide_eq_true c17
       clear c17
       replace H := Option.bind_eq_some_iff.mp H
       obtain ⟨t110, A180, H⟩ := H
       replace H : (if t110 = true then (spec_l03Is.l0 k2 (wrap64 (x3_2 + 1)) a0_0 l0_1 l0_2) else (some false)) = some r := H
       have A18 := zA A180
       clear A180
       by_cases c19 : t110 = true
       ·subst c19
        have H1 : (spec_l03Is.l0 k2 (wrap64 (x3_2 + 1)) a0_0 l0_1 l0_2) = some r := by rw [if_pos rfl] at H; exact H
        clear H
        have H := H1
        clear H1
        have H' := zA H
        clear H
        have hcz20_0 := bc BK105 0
        have hcz20_1 := bc BK105 1
        have hcz20_2 := bc BK105 2
        have hfz20_0 := bf BK105 0
        have hfz20_1 := bf BK105 1
        have hfz20_2 := bf BK105 2
        try go_wp2
        replace BK105 := zA (blk_drew BK105.out)
        replace HB := zA (below_drew1 HB.out)
        have p107 : 0 ≤ (x3_2 : Int) := of_decide_eq_true (by first | (with_reducible assumption) | assumption)
        have q107 : x3_2 < (l0_1.length : Int) := of_decide_eq_true (by first | (with_reducible assumption) | assumption)
        obtain ⟨ad107, e107, hx107_0⟩ := Kd.at_int HR0_1.out x3_2 p107 q107
        have hw107_0 := hx107_0
        cases e107
        replace hx107_0 := hc HB hx107_0
        replace p107 := eq_true p107
        replace q107 := eq_true q107
        have p109 : 0 ≤ (x3_2 : Int) := of_decide_eq_true (by first | (with_reducible assumption) | assumption)
        have q109 : x3_2 < (l0_2.length : Int) := of_decide_eq_true (by first | (with_reducible assumption) | assumption)
        obtain ⟨ad109, e109, hx109_0⟩ := Kd.at_int HR0_2.out x3_2 p109 q109
        have hw109_0 := hx109_0
        cases e109
        replace hx109_0 := hc HB hx109_0
        replace p109 := eq_true p109
        replace q109 := eq_true q109
        refine start_ (n := 22) (S := fun w' => w'.cell? ⟨gb105, 0, none⟩ = some (.int .i64 a0_0) ∧ w'.cell? ⟨gb105, 1, none⟩ = some (.slice (some ad107) l0_1.length c0_1) ∧ w'.cell? ⟨gb105, 2, none⟩ = some (.slice (some ad109) l0_2.length c0_2) ∧ w'.cell? (ad107.add (x3_2).toNat) = some (.int .i64 (rd l0_1 x3_2)) ∧ w'.cell? (ad109.add (x3_2).toNat) = some (.int .i64 (rd l0_2 x3_2))) (ds := []) #[false, false, false, false, false, false, false, false, false, false, false, false, false, false, false, false, false, false, false, false, false, false] (by kernel_rfl) rfl rfl ⟨bcu BK105 0, bcu BK105 1, bcu BK105 2, (hcu HB hw107_0), (hcu HB hw109_0)⟩ (fun hHeld => ?_); refine with_tabW spec_l03Is.tab6 spec_l03Is.bits6 (fun HT_ HW_ => ?_)
        generalize wr.drew = w21 at BK105 HB hx107_0 hx109_0 hHeld ⊢
        refine pu_ 0 36 (bl 22 1) HT_ ?_
        refine pu_ 2 38 (bl 22 5) HT_ ?_
        refine pu_ 5 41 (bl 22 37) HT_ ?_
        refine ta_ 1 37 (bl 22 39) HT_ HW_ hHeld ?_
        refine pu_ 3 39 (bl 22 47) HT_ ?_
        refine ta_ 4 40 (bl 22 63) HT_ HW_ hHeld ?_
        refine ta_ 6 42 (bl 22 127) HT_ HW_ hHeld ?_
        refine pu_ 7 43 (bl 22 255) HT_ ?_
        refine on_ 8 (some 44) (bl 22 511) HT_ (fun K hK => ?_)
        refine gS Try.func53 #[.int .i64 (rd l0_1 x3_2), .int .i64 0, .int .i64 (wrap64 (a0_0 - 1))] ?_
        with_reducible refine (spec_l01In.calls (rd l0_1 x3_2) 0 (wrap64 (a0_0 - 1)) true _ A15.out).mono ?_
        rintro e w' ⟨rfl, ⟨nd, rfl⟩⟩
        refine ⟨_, rfl, ?_⟩
        refine hK.out _ _ ⟨bcu BK105 0, bcu BK105 1, bcu BK105 2, (hcu HB hw107_0), (hcu HB hw109_0)⟩ (fun hHeld => ?_)
        clear hK K
        refine no_ 44 ?_
        refine pu_ 9 45 (bl 22 1023) HT_ ?_
        refine pu_ 10 46 (bl 22 2047) HT_ ?_
        refine pu_ 11 47 (bl 22 4095) HT_ ?_
        refine pu_ 13 49 (bl 22 12287) HT_ ?_
        refine pu_ 16 52 (bl 22 77823) HT_ ?_
        refine ta_ 12 48 (bl 22 81919) HT_ HW_ hHeld ?_
        refine pu_ 14 50 (bl 22 98303) HT_ ?_
        refine ta_ 15 51 (bl 22 131071) HT_ HW_ hHeld ?_
        refine ta_ 17 53 (bl 22 262143) HT_ HW_ hHeld ?_
        refine pu_ 18 54 (bl 22 524287) HT_ ?_
        refine on_ 19 (some 55) (bl 22 1048575) HT_ (fun K hK => ?_)
        refine gS Try.func53 #[.int .i64 (rd l0_2 x3_2), .int .i64 1, .int .i64 (wrap64 (a0_0 - 1))] ?_
        with_reducible refine (spec_l01In.calls (rd l0_2 x3_2) 1 (wrap64 (a0_0 - 1)) true _ A18.out).mono ?_
        rintro e w' ⟨rfl, ⟨nd, rfl⟩⟩
        refine ⟨_, rfl, ?_⟩
        refine hK.out _ _ ⟨bcu BK105 0, bcu BK105 1, bcu BK105 2, (hcu HB hw107_0), (hcu HB hw109_0)⟩ (fun hHeld => ?_)
        clear hK K
        refine no_ 55 ?_
        refine pu_ 20 56 (bl 22 2097151) HT_ ?_
        refine pu_ 21 57 (bl 22 4194303) HT_ ?_
        refine done_ (done_of HT_.out (by kernel_rfl)) ?_
        try go_wp2
        go_roundg k2
        case measure => have := HJ1.out; have := HK2.out; omega
        case rel => exact ⟨(wrap64 (x3_2 + 1)), (by first | rfl | (simp; done) | (simp [*]; done)), H', ⟨by have := HJ1.out; have := HK2.out; omega⟩, ⟨uB BK105.out⟩, ⟨uH HB.out⟩⟩
       ·replace c19 := Bool.eq_false_iff.mpr c19
        subst c19
        have H1 : (some false) = some r := by rw [if_neg (show ¬ (false = true) by decide)] at H; exact H
        clear H
        have H := H1
        clear H1
        obtain rfl := Option.some.inj H
        have hcz22_0 := bc BK105 0
        have hcz22_1 := bc BK105 1
        have hcz22_2 := bc BK105 2
        have hfz22_0 := bf BK105 0
        have hfz22_1 := bf BK105 1
        have hfz22_2 := bf BK105 2
        try go_wp2
        replace BK105 := zA (blk_drew BK105.out)
        replace HB := zA (below_drew1 HB.out)
        have p107 : 0 ≤ (x3_2 : Int) := of_decide_eq_true (by first | (with_reducible assumption) | assumption)
        have q107 : x3_2 < (l0_1.length : Int) := of_decide_eq_true (by first | (with_reducible assumption) | assumption)
        obtain ⟨ad107, e107, hx107_0⟩ := Kd.at_int HR0_1.out x3_2 p107 q107
        have hw107_0 := hx107_0
        cases e107
        replace hx107_0 := hc HB hx107_0
        replace p107 := eq_true p107
        replace q107 := eq_true q107
        have p109 : 0 ≤ (x3_2 : Int) := of_decide_eq_true (by first | (with_reducible assumption) | assumption)
        have q109 : x3_2 < (l0_2.length : Int) := of_decide_eq_true (by first | (with_reducible assumption) | assumption)
        obtain ⟨ad109, e109, hx109_0⟩ := Kd.at_int HR0_2.out x3_2 p109 q109
        have hw109_0 := hx109_0
        cases e109
        replace hx109_0 := hc HB hx109_0
        replace p109 := eq_true p109
        replace q109 := eq_true q109
        refine start_ (n := 22) (S := fun w' => w'.cell? ⟨gb105, 0, none⟩ = some (.int .i64 a0_0) ∧ w'.cell? ⟨gb105, 1, none⟩ = some (.slice (some ad107) l0_1.length c0_1) ∧ w'.cell? ⟨gb105, 2, none⟩ = some (.slice (some ad109) l0_2.length c0_2) ∧ w'.cell? (ad107.add (x3_2).toNat) = some (.int .i64 (rd l0_1 x3_2)) ∧ w'.cell? (ad109.add (x3_2).toNat) = some (.int .i64 (rd l0_2 x3_2))) (ds := []) #[false, false, false, false, false, false, false, false, false, false, false, false, false, false, false, false, false, false, false, false, false, false] (by kernel_rfl) rfl rfl ⟨bcu BK105 0, bcu BK105 1, bcu BK105 2, (hcu HB hw107_0), (hcu HB hw109_0)⟩ (fun hHeld => ?_); refine with_tabW spec_l03Is.tab6 spec_l03Is.bits6 (fun HT_ HW_ => ?_)
        generalize wr.drew = w23 at BK105 HB hx107_0 hx109_0 hHeld ⊢
        refine pu_ 0 36 (bl 22 1) HT_ ?_
        refine pu_ 2 38 (bl 22 5) HT_ ?_
        refine pu_ 5 41 (bl 22 37) HT_ ?_
        refine ta_ 1 37 (bl 22 39) HT_ HW_ hHeld ?_
        refine pu_ 3 39 (bl 22 47) HT_ ?_
        refine ta_ 4 40 (bl 22 63) HT_ HW_ hHeld ?_
        refine ta_ 6 42 (bl 22 127) HT_ HW_ hHeld ?_
        refine pu_ 7 43 (bl 22 255) HT_ ?_
        refine on_ 8 (some 44) (bl 22 511) HT_ (fun K hK => ?_)
        refine gS Try.func53 #[.int .i64 (rd l0_1 x3_2), .int .i64 0, .int .i64 (wrap64 (a0_0 - 1))] ?_
        with_reducible refine (spec_l01In.calls (rd l0_1 x3_2) 0 (wrap64 (a0_0 - 1)) true _ A15.out).mono ?_
        rintro e w' ⟨rfl, ⟨nd, rfl⟩⟩
        refine ⟨_, rfl, ?_⟩
        refine hK.out _ _ ⟨bcu BK105 0, bcu BK105 1, bcu BK105 2, (hcu HB hw107_0), (hcu HB hw109_0)⟩ (fun hHeld => ?_)
        clear hK K
        refine no_ 44 ?_
        refine pu_ 9 45 (bl 22 1023) HT_ ?_
        refine pu_ 10 46 (bl 22 2047) HT_ ?_
        refine pu_ 11 47 (bl 22 4095) HT_ ?_
        refine pu_ 13 49 (bl 22 12287) HT_ ?_
        refine pu_ 16 52 (bl 22 77823) HT_ ?_
        refine ta_ 12 48 (bl 22 81919) HT_ HW_ hHeld ?_
        refine pu_ 14 50 (bl 22 98303) HT_ ?_
        refine ta_ 15 51 (bl 22 131071) HT_ HW_ hHeld ?_
        refine ta_ 17 53 (bl 22 262143) HT_ HW_ hHeld ?_
        refine pu_ 18 54 (bl 22 524287) HT_ ?_
        refine on_ 19 (some 55) (bl 22 1048575) HT_ (fun K hK => ?_)
        refine gS Try.func53 #[.int .i64 (rd l0_2 x3_2), .int .i64 1, .int .i64 (wrap64 (a0_0 - 1))] ?_
        with_reducible refine (spec_l01In.calls (rd l0_2 x3_2) 1 (wrap64 (a0_0 - 1)) false _ A18.out).mono ?_
        rintro e w' ⟨rfl, ⟨nd, rfl⟩⟩
        refine ⟨_, rfl, ?_⟩
        refine hK.out _ _ ⟨bcu BK105 0, bcu BK105 1, bcu BK105 2, (hcu HB hw107_0), (hcu HB hw109_0)⟩ (fun hHeld => ?_)
        clear hK K
        refine no_ 55 ?_
        refine pu_ 20 56 (bl 22 2097151) HT_ ?_
        refine pu_ 21 57 (bl 22 4194303) HT_ ?_
        refine done_ (done_of HT_.out (by kernel_rfl)) ?_
        try go_wp2
        go_ret
        exact ⟨by first | rfl | (simp [errW_none, errW_some] <;> rfl) | (simp [*, errW_none, errW_some] <;> rfl), uH HB.out⟩
      ·replace c16 := Bool.eq_false_iff.mpr c16
       subst c16
       have H1 : (some false) = some r := by rw [if_neg (show ¬ (false = true) by decide)] at H; exact H
       clear H
       have H := H1
       clear H1
       obtain rfl := Option.some.inj H
       have hcz24_0 := bc BK105 0
       have hcz24_1 := bc BK105 1
       have hcz24_2 := bc BK105 2
       have hfz24_0 := bf BK105 0
       have hfz24_1 := bf BK105 1
       have hfz24_2 := bf BK105 2
       try go_wp2
       replace BK105 := zA (blk_drew BK105.out)
       replace HB := zA (below_drew1 HB.out)
       have p107 : 0 ≤ (x3_2 : Int) := of_decide_eq_true (by first | (with_reducible assumption) | assumption)
       have q107 : x3_2 < (l0_1.length : Int) := of_decide_eq_true (by first | (with_reducible assumption) | assumption)
       obtain ⟨ad107, e107, hx107_0⟩ := Kd.at_int HR0_1.out x3_2 p107 q107
       have hw107_0 := hx107_0
       cases e107
       replace hx107_0 := hc HB hx107_0
       replace p107 := eq_true p107
       replace q107 := eq_true q107
       refine start_ (n := 22) (S := fun w' => w'.cell? ⟨gb105, 0, none⟩ = some (.int .i64 a0_0) ∧ w'.cell? ⟨gb105, 1, none⟩ = some (.slice (some ad107) l0_1.length c0_1) ∧ w'.cell? ⟨gb105, 2, none⟩ = some (.slice A0_2 l0_2.length c0_2) ∧ w'.cell? (ad107.add (x3_2).toNat) = some (.int .i64 (rd l0_1 x3_2))) (ds := []) #[false, false, false, false, false, false, false, false, false, false, false, false, false, false, false, false, false, false, false, false, false, false] (by kernel_rfl) rfl rfl ⟨bcu BK105 0, bcu BK105 1, bcu BK105 2, (hcu HB hw107_0)⟩ (fun hHeld => ?_); refine with_tabW spec_l03Is.tab6 spec_l03Is.bits6 (fun HT_ HW_ => ?_)
       generalize wr.drew = w25 at BK105 HB hx107_0 hHeld ⊢
       refine pu_ 0 36 (bl 22 1) HT_ ?_
       refine pu_ 2 38 (bl 22 5) HT_ ?_
       refine pu_ 5 41 (bl 22 37) HT_ ?_
       refine ta_ 1 37 (bl 22 39) HT_ HW_ hHeld ?_
       refine pu_ 3 39 (bl 22 47) HT_ ?_
       refine ta_ 4 40 (bl 22 63) HT_ HW_ hHeld ?_
       refine ta_ 6 42 (bl 22 127) HT_ HW_ hHeld ?_
       refine pu_ 7 43 (bl 22 255) HT_ ?_
       refine on_ 8 (some 44) (bl 22 511) HT_ (fun K hK => ?_)
       refine gS Try.func53 #[.int .i64 (rd l0_1 x3_2), .int .i64 0, .int .i64 (wrap64 (a0_0 - 1))] ?_
       with_reducible refine (spec_l01In.calls (rd l0_1 x3_2) 0 (wrap64 (a0_0 - 1)) false _ A15.out).mono ?_
       rintro e w' ⟨rfl, ⟨nd, rfl⟩⟩
       refine ⟨_, rfl, ?_⟩
       refine hK.out _ _ ⟨bcu BK105 0, bcu BK105 1, bcu BK105 2, (hcu HB hw107_0)⟩ (fun hHeld => ?_)
       clear hK K
       refine no_ 44 ?_
       refine pu_ 9 45 (bl 22 1023) HT_ ?_
       refine pu_ 10 46 (bl 22 2047) HT_ ?_
       refine un_ 11 47 (bl 22 4095) HT_ ?_
       refine un_ 12 48 (bl 22 8191) HT_ ?_
       refine un_ 13 49 (bl 22 16383) HT_ ?_
       refine un_ 14 50 (bl 22 32767) HT_ ?_
       refine un_ 15 51 (bl 22 65535) HT_ ?_
       refine un_ 16 52 (bl 22 131071) HT_ ?_
       refine un_ 17 53 (bl 22 262143) HT_ ?_
       refine un_ 18 54 (bl 22 524287) HT_ ?_
       refine un_ 19 55 (bl 22 1048575) HT_ ?_
       refine un_ 20 56 (bl 22 2097151) HT_ ?_
       refine pu_ 21 57 (bl 22 4194303) HT_ ?_
       refine done_ (done_of HT_.out (by kernel_rfl)) ?_
       try go_wp2
       go_ret
       exact ⟨by first | rfl | (simp [errW_none, errW_some] <;> rfl) | (simp [*, errW_none, errW_some] <;> rfl), uH HB.out⟩
/- Lists all of whose elements answer yes: the plain function that areAll computes, and its printed loop. -/
/-- Do all elements answer yes? (Asked from the first one on, up to the first no.) -/
def allO {α : Type} (p : α → Option Bool) : List α → Option Bool
  | [] => some true
  | x :: l => (p x).bind fun b => if b = true then allO p l else some false

def impl_areAll_int64.f (l : List Int) (p : Int → Option Bool) : Option Bool := if l.length < 4611686018427387904 then allO p l else none

theorem wrap_succ {i : Int} {n : Nat} (h0 : 0 ≤ i) (h1 : i < (n : Int)) (h2 : n < 4611686018427387904) : wrap64 (i + 1) = i + 1 := by
  unfold wrap64; omega

theorem drop_cons {α : Type} (l : List α) (d : α) (i : Nat) (h : i < l.length) : l.drop i = l.getD i d :: l.drop (i + 1) := by
  rw [List.drop_eq_getElem_cons h]; simp [List.getD, h]

theorem indexFunc_ints (p : Int → Option Bool) (l : List Int) (hl : l.length < 4611686018427387904) (d : Nat) : ∀ (k i : Nat) (r : Bool), i + d = l.length → d < k → allO p (l.drop i) = some r →
    ∃ j, slices_IndexFunc_ints.l0 k l (fun z_ => impl_areAll_int64_1.f z_ p) (l.length : Int) (i : Int) = some j ∧ decide (j ≥ 0) = !r := by
  induction d with
  | zero =>
    intro k i r hi hk h
    obtain ⟨k, rfl⟩ : ∃ m, k = m + 1 := ⟨k - 1, by omega⟩
    simp only [slices_IndexFunc_ints.l0]
    rw [if_neg (by omega)]
    rw [List.drop_eq_nil_of_le (by omega)] at h
    simp only [allO, Option.some.injEq] at h
    subst h
    exact ⟨-1, rfl, rfl⟩
  | succ d ih =>
    intro k i r hi hk h
    obtain ⟨k, rfl⟩ : ∃ m, k = m + 1 := ⟨k - 1, by omega⟩
    simp only [slices_IndexFunc_ints.l0]
    rw [if_pos (by omega), if_pos (by omega), if_pos (by omega)]
    rw [drop_cons l 0 i (by omega)] at h
    simp only [allO] at h
    have e : rd l (i : Int) = l.getD i 0 := by simp [rd]
    rw [e]
    obtain ⟨b, hb, h⟩ := Option.bind_eq_some_iff.mp h
    simp only [impl_areAll_int64_1.f, hb, Option.bind_some]
    cases b with
    | true =>
      rw [if_pos rfl] at h
      simp only [Bool.not_true, Bool.false_eq_true, if_false]
      rw [wrap_succ (n := l.length) (by omega) (by omega) hl]
      exact ih k (i + 1) r (by omega) (by omega) h
    | false =>
      simp only [Bool.false_eq_true, if_false, Option.some.injEq] at h
      subst h
      simp only [Bool.not_false, if_true]
      exact ⟨i, rfl, by simp⟩

theorem areAllK_int64 {l : List Int} {p : Int → Option Bool} {r : Bool} (h : impl_areAll_int64.f l p = some r) : impl_areAll_int64K.f (l.length + 1) l p = some r := by
  unfold impl_areAll_int64.f at h
  split at h
  · rename_i hl
    obtain ⟨j, h1, h2⟩ := indexFunc_ints p l hl l.length (l.length + 1) 0 r (by omega) (by omega) (by simpa using h)
    unfold impl_areAll_int64K.f slices_ContainsFunc_ints.f slices_IndexFunc_ints.f
    have h1' : slices_IndexFunc_ints.l0 (l.length + 1) l (fun z_ => impl_areAll_int64_1.f z_ p) (l.length : Int) 0 = some j := h1
    rw [h1']
    simp only [Option.bind_some, h2, Bool.not_not]
  · cases h
theorem impl_areAll_int64.calls (A0 : Option Addr) (c0 : Nat) (l0 : List Int) (F1 : Value) (a1 : (Int → Option Bool)) (r : Bool) (w : World) (hr0 : Kd.C (Kd.int .i64) w A0 l0.length l0) (hc0 : l0.length ≤ c0) (hF1 : FnI Try.prog w F1 a1) (h : impl_areAll_int64.f l0 a1 = some r) :
    Calls Try.prog 68 #[.slice A0 l0.length c0, F1] w fun e w' => e = .returned (.bool r) ∧ Below w.heap.size w w' :=
  impl_areAll_int64K.calls _ A0 c0 l0 F1 a1 r w hr0 hc0 hF1 (areAllK_int64 h)
end Go.Proofs.Ytjdannndpfkadaa.Pr
