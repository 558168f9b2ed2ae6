/- Texts of this session in one: what functions of the program compute, and plain facts of it, under the conditions that each theorem names. -/
import Derived.Test.YtokkabgkjhpecaaKC01
import Derived.Test.YtokkabgkjhpecaaKC02
import Derived.Test.YtokkabgkjhpecaaKC03
/- Printed by a program of this session out of the translation: what these functions of the program compute, under the conditions that each theorem names. -/
namespace Go.Proofs.Ytokkabgkjhpecaa.Pr
open Go.RowKit Go.Proofs.YtokkabgkjhpecaaW.PrintWords Go.Proofs.YtokkabgkjhpecaaW.PrintLast Go.Proofs.YtokkabgkjhpecaaW.PrintMore
attribute [local go_sem] max2_int min2_int max_two min_two max_three min_three max_four min_four   -- for this text's walks alone
set_option linter.unusedVariables false
set_option linter.unusedSimpArgs false

/-! ### impl_AreMoments: function 130 -/
def impl_AreMoments.f (k : Nat) (a0_0 : Int) (l0_1 : List Int) : Option (Bool) := (impl_IsPrime.f k a0_0).bind fun t168 => (if t168 = true then ((impl_length_int64.f l0_1).bind fun t169 => ((impl_within.f t169 1 24).bind fun t170 => (if t170 = true then ((impl_Moments_field.f a0_0 l0_1).bind fun t171 => ((impl_areAll_int64.f l0_1 (fun z_ => impl_field_has.f t171 z_)).bind fun t172 => (some t172))) else (some false)))) else (some false))
theorem impl_AreMoments.mono : ∀ a0 a1 k, LeO (impl_AreMoments.f k a0 a1) (impl_AreMoments.f (k + 1) a0 a1) := by
 intro a0 a1 k
 unfold impl_AreMoments.f
 repeat' first
   | (with_reducible exact impl_IsPrime.mono _ _)
   | (with_reducible exact LeO.refl _)
   | (with_reducible exact LeO.none _)
   | (with_reducible refine LeO.ite ?_ ?_)
   | (with_reducible refine LeO.bind ?_ (fun _ => ?_))
   | exact impl_IsPrime.mono _ _
   | exact LeO.none _
   | refine LeO.ite ?_ ?_
   | refine LeO.bind ?_ (fun _ => ?_)
def impl_AreMoments.T1 : Bool × List (List Nat × List Nat) := (true, [([], []), ([0], [0]), ([1], [1]), ([2, 2], [2]), ([3], [3]), ([4, 3], [3, 4]), ([5, 3, 3], [3, 5]), ([6, 6, 3], [3, 6]), ([3, 7], [3, 7]), ([8, 7], [8]), ([9], [9]), ([10, 9], [9, 10]), ([9], [9]), ([12, 9, 9], [9, 12]), ([13, 9], [9, 13]), ([11, 14, 13, 9], [9, 11, 14]), ([9, 15], [9, 15]), ([16, 15, 0, 1, 2, 3, 4, 5, 6, 7, 8, 9, 10, 11, 12, 13, 14, 15, 16], [16])])
def impl_AreMoments.B1 : List Nat := [0, 1, 3, 7, 15, 31, 63, 127, 255, 511, 1023, 2047, 1023, 5119, 13311, 32767, 65535, 131071]
theorem impl_AreMoments.tab1 : rtab .any (opsOf Try.f130 1) = impl_AreMoments.T1 := by kernel_rfl
theorem impl_AreMoments.bits1 : waitsOk impl_AreMoments.T1.2 impl_AreMoments.B1 = true := by kernel_rfl
set_option maxHeartbeats 8000000 in
set_option maxRecDepth 100000 in
theorem impl_AreMoments.calls (k : Nat) (a0_0 : Int) (A0_1 : Option Addr) (c0_1 : Nat) (l0_1 : List Int) (r : Bool) (w : World) (hr0_1 : Kd.C (Kd.int .i64) w A0_1 l0_1.length l0_1) (hc0_1 : l0_1.length ≤ c0_1) (h : impl_AreMoments.f k a0_0 l0_1 = some r) :
  Calls Try.prog 130 #[.agg #[.int .i64 a0_0, .slice A0_1 l0_1.length c0_1]] w fun e w' => e = .returned (.bool r) ∧ Below w.heap.size w w' := by
 have hu31 := Try.underlying31
 have hmf : ∀ (fn_ : Fn) (first_ cap_ : Array Value) (w_ : World), (Instr.makeFunc fn_ first_ cap_).run Try.prog w_ = .ok (.func fn_ first_ cap_) w_ := fun _ _ _ _ => rfl
 have HR0_1 := zA hr0_1
 have HC0_1 := zA hc0_1
 clear hr0_1 hc0_1
 have HB := zA (Below.refl w.heap.size w)
 have H : ((impl_IsPrime.f k a0_0).bind fun t168 => (if t168 = true then ((impl_length_int64.f l0_1).bind fun t169 => ((impl_within.f t169 1 24).bind fun t170 => (if t170 = true then ((impl_Moments_field.f a0_0 l0_1).bind fun t171 => ((impl_areAll_int64.f l0_1 (fun z_ => impl_field_has.f t171 z_)).bind fun t172 => (some t172))) else (some false)))) else (some false))) = some r := h
 clear h
 replace H := Option.bind_eq_some_iff.mp H
 obtain ⟨t168, A20, H⟩ := H
 replace H : (if t168 = true then ((impl_length_int64.f l0_1).bind fun t169 => ((impl_within.f t169 1 24).bind fun t170 => (if t170 = true then ((impl_Moments_field.f a0_0 l0_1).bind fun t171 => ((impl_areAll_int64.f l0_1 (fun z_ => impl_field_has.f t171 z_)).bind fun t172 => (some t172))) else (some false)))) else (some false)) = some r := H
 have A2 := zA A20
 clear A20
 by_cases c3 : t168 = true
 ·subst c3
  have H1 : ((impl_length_int64.f l0_1).bind fun t169 => ((impl_within.f t169 1 24).bind fun t170 => (if t170 = true then ((impl_Moments_field.f a0_0 l0_1).bind fun t171 => ((impl_areAll_int64.f l0_1 (fun z_ => impl_field_has.f t171 z_)).bind fun t172 => (some t172))) else (some false)))) = some r := by rw [if_pos rfl] at H; exact H
  clear H
  have H := H1
  clear H1
  replace H := Option.bind_eq_some_iff.mp H
  obtain ⟨t169, A40, H⟩ := H
  replace H : ((impl_within.f t169 1 24).bind fun t170 => (if t170 = true then ((impl_Moments_field.f a0_0 l0_1).bind fun t171 => ((impl_areAll_int64.f l0_1 (fun z_ => impl_field_has.f t171 z_)).bind fun t172 => (some t172))) else (some false))) = some r := H
  have A4 := zA A40
  clear A40
  replace H := Option.bind_eq_some_iff.mp H
  obtain ⟨t170, A50, H⟩ := H
  replace H : (if t170 = true then ((impl_Moments_field.f a0_0 l0_1).bind fun t171 => ((impl_areAll_int64.f l0_1 (fun z_ => impl_field_has.f t171 z_)).bind fun t172 => (some t172))) else (some false)) = some r := H
  have A5 := zA A50
  clear A50
  by_cases c6 : t170 = true
  ·subst c6
   have H1 : ((impl_Moments_field.f a0_0 l0_1).bind fun t171 => ((impl_areAll_int64.f l0_1 (fun z_ => impl_field_has.f t171 z_)).bind fun t172 => (some t172))) = some r := by rw [if_pos rfl] at H; exact H
   clear H
   have H := H1
   clear H1
   replace H := Option.bind_eq_some_iff.mp H
   obtain ⟨t171, A70, H⟩ := H
   replace H : ((impl_areAll_int64.f l0_1 (fun z_ => impl_field_has.f t171 z_)).bind fun t172 => (some t172)) = some r := H
   have A7 := zA A70
   clear A70
   replace H := Option.bind_eq_some_iff.mp H
   obtain ⟨t172, A80, H⟩ := H
   replace H : (some t172) = some r := H
   have A8 := zA A80
   clear A80
   obtain rfl := Option.some.inj H
   go_enter Try.func130, Try.ntmps130
   try go_wp2_with (first | ((with_reducible refine gate_dst (N := 1) rfl ?_); refine box_event ?hg (N := 1) ?hd (cs := #[.int .i64 a0_0, .slice A0_1 l0_1.length c0_1]) (t := 31) ?hr ?_; (case hd => rfl); (case hg => rfl); (case hr => first | (go_simp; done) | (go_simp; rfl)); intro gb167 hg w9 hbox hb; have n0_ := xH HB hb; have n1_ := zA (hbox); have n2_ := zA ((by rw [hg]; exact (below_size (uH HB.out)) : w.heap.size ≤ gb167)); have n3_ := zA ((by rw [hg]; exact (below_size (uH HB.out)) : w.heap.size ≤ gb167)); clear HB; have HB := n0_; have BK167 := n1_; have GW167 := n2_; have GE167 := n3_; have := geI GE167; clear n0_ n1_ n2_ n3_ hb hbox hg))
   have n0_ := zA (blk_drew BK167.out)
   have n1_ := zA (below_drew1 HB.out)
   clear BK167 HB
   have BK167 := n0_; have HB := n1_
   clear n0_ n1_
   refine start_ (n := 18) (S := fun w' => w'.cell? ⟨gb167, 0, none⟩ = some (.int .i64 a0_0) ∧ w'.cell? ⟨gb167, 1, none⟩ = some (.slice A0_1 l0_1.length c0_1)) (ds := []) #[false, false, false, false, false, false, false, false, false, false, false, false, false, false, false, false, false, false] (by kernel_rfl) rfl rfl ⟨(blk_cell BK167.out 0).trans rfl, (blk_cell BK167.out 1).trans rfl⟩ (fun hHeld => ?_); refine with_tabW impl_AreMoments.tab1 impl_AreMoments.bits1 (fun HT_ HW_ => ?_)
   generalize w9.drew = w10 at BK167 HB hHeld ⊢
   refine pure_ (i := 0) (N := some 3) (v := ?_) (a' := ?_) #[true, false, false, false, false, false, false, false, false, false, false, false, false, false, false, false, false, false] rfl rfl (any_of HT_.out (by kernel_rfl)) (fun _ _ _ h => h) (Or.inl ⟨by rfl, ?_⟩) ?_ ?_
   rotate_left
   ·intro w'
    go_simp
    with_reducible rfl
   rotate_left
   ·simp only [Act.put, ls, lz, ln, i64_w, i32_w]
    rfl
   refine take_ (i := 1) (N := some 4) (v := ?_) (a' := ?_) #[true, true, false, false, false, false, false, false, false, false, false, false, false, false, false, false, false, false] rfl rfl (take_ofW HT_.out HW_.out (by kernel_rfl)) (fun _ _ _ h => h) (Or.inl ⟨by rfl, ?_⟩) hHeld ?_ ?_
   rotate_left
   ·rintro w' ⟨s0, s1⟩
    go_simp
    with_reducible rfl
   rotate_left
   ·simp only [Act.put, ls, lz, ln, i64_w, i32_w]
    rfl
   refine one_ (i := 2) (N := some 5) #[true, true, true, false, false, false, false, false, false, false, false, false, false, false, false, false, false, false] rfl rfl (one_of HT_.out (by kernel_rfl)) (by decide) (fun K hK => ?_)
   refine goes_ Try.func149 (by kernel_rfl) rfl #[.int .i64 a0_0] (by rfl) rfl rfl (by (try simp only [la, lb, lc]); first | done | rfl | (simp only [ld, le]; rfl)) ?_
   with_reducible refine (impl_IsPrime.calls k a0_0 true _ A2.out).mono ?_
   rintro e w' ⟨rfl, ⟨nd, rfl⟩⟩
   refine ⟨_, rfl, ?_⟩
   refine hK.out _ _ ⟨(blk_cell BK167.out 0).trans rfl, (blk_cell BK167.out 1).trans rfl⟩ (fun hHeld => ?_)
   clear hK K
   refine norm_ (a' := ?_) ?_ ?_
   rotate_left
   ·show Act.put _ (some 5) _ = _
    simp only [Act.put, ls, lz, ln, i64_w, i32_w]
    rfl
   refine pure_ (i := 3) (N := some 6) (v := ?_) (a' := ?_) #[true, true, true, true, false, false, false, false, false, false, false, false, false, false, false, false, false, false] rfl rfl (any_of HT_.out (by kernel_rfl)) (fun _ _ _ h => h) (Or.inl ⟨by rfl, ?_⟩) ?_ ?_
   rotate_left
   ·intro w'
    go_simp
    with_reducible rfl
   rotate_left
   ·simp only [Act.put, ls, lz, ln, i64_w, i32_w]
    rfl
   refine pure_ (i := 4) (N := some 7) (v := ?_) (a' := ?_) #[true, true, true, true, true, false, false, false, false, false, false, false, false, false, false, false, false, false] rfl rfl (any_of HT_.out (by kernel_rfl)) (fun _ _ _ h => h) (Or.inl ⟨by rfl, ?_⟩) ?_ ?_
   rotate_left
   ·intro w'
    go_simp
    with_reducible rfl
   rotate_left
   ·simp only [Act.put, ls, lz, ln, i64_w, i32_w]
    rfl
   refine take_ (i := 5) (N := some 8) (v := ?_) (a' := ?_) #[true, true, true, true, true, true, false, false, false, false, false, false, false, false, false, false, false, false] rfl rfl (take_ofW HT_.out HW_.out (by kernel_rfl)) (fun _ _ _ h => h) (Or.inl ⟨by rfl, ?_⟩) hHeld ?_ ?_
   rotate_left
   ·rintro w' ⟨s0, s1⟩
    go_simp
    with_reducible rfl
   rotate_left
   ·simp only [Act.put, ls, lz, ln, i64_w, i32_w]
    rfl
   refine one_ (i := 6) (N := some 9) #[true, true, true, true, true, true, true, false, false, false, false, false, false, false, false, false, false, false] rfl rfl (one_of HT_.out (by kernel_rfl)) (by decide) (fun K hK => ?_)
   refine goes_ Try.func121 (by kernel_rfl) rfl #[.slice A0_1 l0_1.length c0_1] (by rfl) rfl rfl (by (try simp only [la, lb, lc]); first | done | rfl | (simp only [ld, le]; rfl)) ?_
   with_reducible refine (impl_length_int64.calls _ _ l0_1 t169 _ ?side1 ?side2 A4.out).mono ?_
   (case side1 => repeat (first | exact (Kd.C_below HR0_1.out (uH HB.out)) | (with_reducible refine Kd.C_alloc ?_ _) | (with_reducible refine Kd.C_drewN ?_ _) | (with_reducible refine Kd.C_drew ?_)))
   (case side2 => exact HC0_1.out)
   rintro e w' ⟨rfl, ⟨nd, rfl⟩⟩
   refine ⟨_, rfl, ?_⟩
   refine hK.out _ _ ⟨(blk_cell BK167.out 0).trans rfl, (blk_cell BK167.out 1).trans rfl⟩ (fun hHeld => ?_)
   clear hK K
   refine norm_ (a' := ?_) ?_ ?_
   rotate_left
   ·show Act.put _ (some 9) _ = _
    simp only [Act.put, ls, lz, ln, i64_w, i32_w]
    rfl
   refine one_ (i := 7) (N := some 10) #[true, true, true, true, true, true, true, true, false, false, false, false, false, false, false, false, false, false] rfl rfl (one_of HT_.out (by kernel_rfl)) (by decide) (fun K hK => ?_)
   refine goes_ Try.func74 (by kernel_rfl) rfl #[.int .i64 t169, .int .i64 1, .int .i64 24] (by rfl) rfl rfl (by (try simp only [la, lb, lc]); first | done | rfl | (simp only [ld, le]; rfl)) ?_
   with_reducible refine (impl_within.calls t169 1 24 true _ A5.out).mono ?_
   rintro e w' ⟨rfl, ⟨nd, rfl⟩⟩
   refine ⟨_, rfl, ?_⟩
   refine hK.out _ _ ⟨(blk_cell BK167.out 0).trans rfl, (blk_cell BK167.out 1).trans rfl⟩ (fun hHeld => ?_)
   clear hK K
   refine norm_ (a' := ?_) ?_ ?_
   rotate_left
   ·show Act.put _ (some 10) _ = _
    simp only [Act.put, ls, lz, ln, i64_w, i32_w]
    rfl
   refine pure_ (i := 8) (N := some 11) (v := ?_) (a' := ?_) #[true, true, true, true, true, true, true, true, true, false, false, false, false, false, false, false, false, false] rfl rfl (any_of HT_.out (by kernel_rfl)) (fun _ _ _ h => h) (Or.inl ⟨by rfl, ?_⟩) ?_ ?_
   rotate_left
   ·intro w'
    go_simp
    with_reducible rfl
   rotate_left
   ·simp only [Act.put, ls, lz, ln, i64_w, i32_w]
    rfl
   refine pure_ (i := 9) (N := some 12) (v := ?_) (a' := ?_) #[true, true, true, true, true, true, true, true, true, true, false, false, false, false, false, false, false, false] rfl rfl (any_of HT_.out (by kernel_rfl)) (fun _ _ _ h => h) (Or.inl ⟨by rfl, ?_⟩) ?_ ?_
   rotate_left
   ·intro w'
    go_simp
    with_reducible rfl
   rotate_left
   ·simp only [Act.put, ls, lz, ln, i64_w, i32_w]
    rfl
   refine pure_ (i := 10) (N := some 13) (v := ?_) (a' := ?_) #[true, true, true, true, true, true, true, true, true, true, true, false, false, false, false, false, false, false] rfl rfl (any_of HT_.out (by kernel_rfl)) (fun _ _ _ h => h) (Or.inl ⟨by rfl, ?_⟩) ?_ ?_
   rotate_left
   ·intro w'
    go_simp
    with_reducible rfl
   rotate_left
   ·simp only [Act.put, ls, lz, ln, i64_w, i32_w]
    rfl
   refine take_ (i := 11) (N := some 14) (v := ?_) (a' := ?_) #[true, true, true, true, true, true, true, true, true, true, true, true, false, false, false, false, false, false] rfl rfl (take_ofW HT_.out HW_.out (by kernel_rfl)) (fun _ _ _ h => h) (Or.inl ⟨by rfl, ?_⟩) hHeld ?_ ?_
   rotate_left
   ·rintro w' ⟨s0, s1⟩
    go_simp
    with_reducible rfl
   rotate_left
   ·simp only [Act.put, ls, lz, ln, i64_w, i32_w]
    rfl
   refine take_ (i := 12) (N := some 15) (v := ?_) (a' := ?_) #[true, true, true, true, true, true, true, true, true, true, true, true, true, false, false, false, false, false] rfl rfl (take_ofW HT_.out HW_.out (by kernel_rfl)) (fun _ _ _ h => h) (Or.inl ⟨by rfl, ?_⟩) hHeld ?_ ?_
   rotate_left
   ·rintro w' ⟨s0, s1⟩
    go_simp
    with_reducible rfl
   rotate_left
   ·simp only [Act.put, ls, lz, ln, i64_w, i32_w]
    rfl
   refine one_ (i := 13) (N := some 16) #[true, true, true, true, true, true, true, true, true, true, true, true, true, true, false, false, false, false] rfl rfl (one_of HT_.out (by kernel_rfl)) (by decide) (fun K hK => ?_)
   refine goes_ Try.func100 (by kernel_rfl) rfl #[.agg #[.int .i64 a0_0, .slice A0_1 l0_1.length c0_1]] (by rfl) rfl rfl (by (try simp only [la, lb, lc]); first | done | rfl | (simp only [ld, le]; rfl)) ?_
   with_reducible refine (impl_Moments_field.calls a0_0 _ _ l0_1 t171 _ ?side1 ?side2 A7.out).mono ?_
   (case side1 => repeat (first | exact (Kd.C_below HR0_1.out (uH HB.out)) | (with_reducible refine Kd.C_alloc ?_ _) | (with_reducible refine Kd.C_drewN ?_ _) | (with_reducible refine Kd.C_drew ?_)))
   (case side2 => exact HC0_1.out)
   rintro e w11 ⟨rfl, hb⟩
   refine ⟨_, rfl, ?_⟩
   have n0_ := xB BK167 hb
   have n1_ := xH HB hb
   clear BK167 HB
   have BK167 := n0_; have HB := n1_
   clear n0_ n1_
   (try clear hb); (try clear hb2); (try clear hk); (try clear hi)
   refine hK.out _ _ ⟨(blk_cell BK167.out 0).trans rfl, (blk_cell BK167.out 1).trans rfl⟩ (fun hHeld => ?_)
   clear hK K
   refine norm_ (a' := ?_) ?_ ?_
   rotate_left
   ·show Act.put _ (some 16) _ = _
    simp only [Act.put, ls, lz, ln, i64_w, i32_w]
    rfl
   refine pure_ (i := 14) (N := some 17) (v := ?_) (a' := ?_) #[true, true, true, true, true, true, true, true, true, true, true, true, true, true, true, false, false, false] rfl rfl (any_of HT_.out (by kernel_rfl)) (fun _ _ _ h => h) (Or.inl ⟨by rfl, ?_⟩) ?_ ?_
   rotate_left
   ·intro w'
    go_simp
    with_reducible rfl
   rotate_left
   ·simp only [Act.put, ls, lz, ln, i64_w, i32_w]
    rfl
   refine one_ (i := 15) (N := some 18) #[true, true, true, true, true, true, true, true, true, true, true, true, true, true, true, true, false, false] rfl rfl (one_of HT_.out (by kernel_rfl)) (by decide) (fun K hK => ?_)
   refine goes_ Try.func146 (by kernel_rfl) rfl #[.slice A0_1 l0_1.length c0_1, (.func (.func 77) #[.int .i64 t171] #[])] (by rfl) rfl rfl (by (try simp only [la, lb, lc]); first | done | rfl | (simp only [ld, le]; rfl)) ?_
   with_reducible refine (impl_areAll_int64.calls _ _ l0_1 _ (fun z_ => impl_field_has.f t171 z_) t172 _ ?side1 ?side2 ?side3 A8.out).mono ?_
   (case side1 => exact uC ((Kd.C_below HR0_1.out HB.out)))
   (case side2 => exact HC0_1.out)
   (case side3 => exact FnI.of Try.func77 (by kernel_rfl) rfl (fun z_ r_ hr_ W_ hW_ => calls_of_args (args' := #[.int .i64 t171, .int .i64 z_]) (by simp) ((impl_field_has.calls t171 z_ r_ W_  hr_).mono fun e_ W2_ h_ => ⟨h_.1, h_.2.below⟩)))
   rintro e w12 ⟨rfl, hb⟩
   refine ⟨_, rfl, ?_⟩
   have n0_ := xB BK167 hb
   have n1_ := xH HB hb
   clear BK167 HB
   have BK167 := n0_; have HB := n1_
   clear n0_ n1_
   (try clear hb); (try clear hb2); (try clear hk); (try clear hi)
   refine hK.out _ _ ⟨(blk_cell BK167.out 0).trans rfl, (blk_cell BK167.out 1).trans rfl⟩ (fun hHeld => ?_)
   clear hK K
   refine norm_ (a' := ?_) ?_ ?_
   rotate_left
   ·show Act.put _ (some 18) _ = _
    simp only [Act.put, ls, lz, ln, i64_w, i32_w]
    rfl
   refine pure_ (i := 16) (N := some 19) (v := ?_) (a' := ?_) #[true, true, true, true, true, true, true, true, true, true, true, true, true, true, true, true, true, false] rfl rfl (any_of HT_.out (by kernel_rfl)) (fun _ _ _ h => h) (Or.inl ⟨by rfl, ?_⟩) ?_ ?_
   rotate_left
   ·intro w'
    go_simp
    with_reducible rfl
   rotate_left
   ·simp only [Act.put, ls, lz, ln, i64_w, i32_w]
    rfl
   refine pure_ (i := 17) (N := some 2) (v := ?_) (a' := ?_) #[true, true, true, true, true, true, true, true, true, true, true, true, true, true, true, true, true, true] rfl rfl (any_of HT_.out (by kernel_rfl)) (fun _ _ _ h => h) (Or.inl ⟨by rfl, ?_⟩) ?_ ?_
   rotate_left
   ·intro w'
    go_simp
    with_reducible rfl
   rotate_left
   ·simp only [Act.put, ls, lz, ln, i64_w, i32_w]
    rfl
   refine done_ (done_of HT_.out (by kernel_rfl)) ?_
   try go_wp2
   go_ret
   exact ⟨by first | rfl | (simp [errW_none, errW_some] <;> rfl) | (simp [*, errW_none, errW_some] <;> rfl), uH HB.out⟩
  ·replace c6 := Bool.eq_false_iff.mpr c6
   subst c6
   have H1 : (some false) = some r := by rw [if_neg (show ¬ (false = true) by decide)] at H; exact H
   clear H
   have H := H1
   clear H1
   obtain rfl := Option.some.inj H
   go_enter Try.func130, Try.ntmps130
   try go_wp2_with (first | ((with_reducible refine gate_dst (N := 1) rfl ?_); refine box_event ?hg (N := 1) ?hd (cs := #[.int .i64 a0_0, .slice A0_1 l0_1.length c0_1]) (t := 31) ?hr ?_; (case hd => rfl); (case hg => rfl); (case hr => first | (go_simp; done) | (go_simp; rfl)); intro gb167 hg w13 hbox hb; have n0_ := xH HB hb; have n1_ := zA (hbox); have n2_ := zA ((by rw [hg]; exact (below_size (uH HB.out)) : w.heap.size ≤ gb167)); have n3_ := zA ((by rw [hg]; exact (below_size (uH HB.out)) : w.heap.size ≤ gb167)); clear HB; have HB := n0_; have BK167 := n1_; have GW167 := n2_; have GE167 := n3_; have := geI GE167; clear n0_ n1_ n2_ n3_ hb hbox hg))
   have n0_ := zA (blk_drew BK167.out)
   have n1_ := zA (below_drew1 HB.out)
   clear BK167 HB
   have BK167 := n0_; have HB := n1_
   clear n0_ n1_
   refine start_ (n := 18) (S := fun w' => w'.cell? ⟨gb167, 0, none⟩ = some (.int .i64 a0_0) ∧ w'.cell? ⟨gb167, 1, none⟩ = some (.slice A0_1 l0_1.length c0_1)) (ds := []) #[false, false, false, false, false, false, false, false, false, false, false, false, false, false, false, false, false, false] (by kernel_rfl) rfl rfl ⟨(blk_cell BK167.out 0).trans rfl, (blk_cell BK167.out 1).trans rfl⟩ (fun hHeld => ?_); refine with_tabW impl_AreMoments.tab1 impl_AreMoments.bits1 (fun HT_ HW_ => ?_)
   generalize w13.drew = w14 at BK167 HB hHeld ⊢
   refine pure_ (i := 0) (N := some 3) (v := ?_) (a' := ?_) #[true, false, false, false, false, false, false, false, false, false, false, false, false, false, false, false, false, false] rfl rfl (any_of HT_.out (by kernel_rfl)) (fun _ _ _ h => h) (Or.inl ⟨by rfl, ?_⟩) ?_ ?_
   rotate_left
   ·intro w'
    go_simp
    with_reducible rfl
   rotate_left
   ·simp only [Act.put, ls, lz, ln, i64_w, i32_w]
    rfl
   refine take_ (i := 1) (N := some 4) (v := ?_) (a' := ?_) #[true, true, false, false, false, false, false, false, false, false, false, false, false, false, false, false, false, false] rfl rfl (take_ofW HT_.out HW_.out (by kernel_rfl)) (fun _ _ _ h => h) (Or.inl ⟨by rfl, ?_⟩) hHeld ?_ ?_
   rotate_left
   ·rintro w' ⟨s0, s1⟩
    go_simp
    with_reducible rfl
   rotate_left
   ·simp only [Act.put, ls, lz, ln, i64_w, i32_w]
    rfl
   refine one_ (i := 2) (N := some 5) #[true, true, true, false, false, false, false, false, false, false, false, false, false, false, false, false, false, false] rfl rfl (one_of HT_.out (by kernel_rfl)) (by decide) (fun K hK => ?_)
   refine goes_ Try.func149 (by kernel_rfl) rfl #[.int .i64 a0_0] (by rfl) rfl rfl (by (try simp only [la, lb, lc]); first | done | rfl | (simp only [ld, le]; rfl)) ?_
   with_reducible refine (impl_IsPrime.calls k a0_0 true _ A2.out).mono ?_
   rintro e w' ⟨rfl, ⟨nd, rfl⟩⟩
   refine ⟨_, rfl, ?_⟩
   refine hK.out _ _ ⟨(blk_cell BK167.out 0).trans rfl, (blk_cell BK167.out 1).trans rfl⟩ (fun hHeld => ?_)
   clear hK K
   refine norm_ (a' := ?_) ?_ ?_
   rotate_left
   ·show Act.put _ (some 5) _ = _
    simp only [Act.put, ls, lz, ln, i64_w, i32_w]
    rfl
   refine pure_ (i := 3) (N := some 6) (v := ?_) (a' := ?_) #[true, true, true, true, false, false, false, false, false, false, false, false, false, false, false, false, false, false] rfl rfl (any_of HT_.out (by kernel_rfl)) (fun _ _ _ h => h) (Or.inl ⟨by rfl, ?_⟩) ?_ ?_
   rotate_left
   ·intro w'
    go_simp
    with_reducible rfl
   rotate_left
   ·simp only [Act.put, ls, lz, ln, i64_w, i32_w]
    rfl
   refine pure_ (i := 4) (N := some 7) (v := ?_) (a' := ?_) #[true, true, true, true, true, false, false, false, false, false, false, false, false, false, false, false, false, false] rfl rfl (any_of HT_.out (by kernel_rfl)) (fun _ _ _ h => h) (Or.inl ⟨by rfl, ?_⟩) ?_ ?_
   rotate_left
   ·intro w'
    go_simp
    with_reducible rfl
   rotate_left
   ·simp only [Act.put, ls, lz, ln, i64_w, i32_w]
    rfl
   refine take_ (i := 5) (N := some 8) (v := ?_) (a' := ?_) #[true, true, true, true, true, true, false, false, false, false, false, false, false, false, false, false, false, false] rfl rfl (take_ofW HT_.out HW_.out (by kernel_rfl)) (fun _ _ _ h => h) (Or.inl ⟨by rfl, ?_⟩) hHeld ?_ ?_
   rotate_left
   ·rintro w' ⟨s0, s1⟩
    go_simp
    with_reducible rfl
   rotate_left
   ·simp only [Act.put, ls, lz, ln, i64_w, i32_w]
    rfl
   refine one_ (i := 6) (N := some 9) #[true, true, true, true, true, true, true, false, false, false, false, false, false, false, false, false, false, false] rfl rfl (one_of HT_.out (by kernel_rfl)) (by decide) (fun K hK => ?_)
   refine goes_ Try.func121 (by kernel_rfl) rfl #[.slice A0_1 l0_1.length c0_1] (by rfl) rfl rfl (by (try simp only [la, lb, lc]); first | done | rfl | (simp only [ld, le]; rfl)) ?_
   with_reducible refine (impl_length_int64.calls _ _ l0_1 t169 _ ?side1 ?side2 A4.out).mono ?_
   (case side1 => repeat (first | exact (Kd.C_below HR0_1.out (uH HB.out)) | (with_reducible refine Kd.C_alloc ?_ _) | (with_reducible refine Kd.C_drewN ?_ _) | (with_reducible refine Kd.C_drew ?_)))
   (case side2 => exact HC0_1.out)
   rintro e w' ⟨rfl, ⟨nd, rfl⟩⟩
   refine ⟨_, rfl, ?_⟩
   refine hK.out _ _ ⟨(blk_cell BK167.out 0).trans rfl, (blk_cell BK167.out 1).trans rfl⟩ (fun hHeld => ?_)
   clear hK K
   refine norm_ (a' := ?_) ?_ ?_
   rotate_left
   ·show Act.put _ (some 9) _ = _
    simp only [Act.put, ls, lz, ln, i64_w, i32_w]
    rfl
   refine one_ (i := 7) (N := some 10) #[true, true, true, true, true, true, true, true, false, false, false, false, false, false, false, false, false, false] rfl rfl (one_of HT_.out (by kernel_rfl)) (by decide) (fun K hK => ?_)
   refine goes_ Try.func74 (by kernel_rfl) rfl #[.int .i64 t169, .int .i64 1, .int .i64 24] (by rfl) rfl rfl (by (try simp only [la, lb, lc]); first | done | rfl | (simp only [ld, le]; rfl)) ?_
   with_reducible refine (impl_within.calls t169 1 24 false _ A5.out).mono ?_
   rintro e w' ⟨rfl, ⟨nd, rfl⟩⟩
   refine ⟨_, rfl, ?_⟩
   refine hK.out _ _ ⟨(blk_cell BK167.out 0).trans rfl, (blk_cell BK167.out 1).trans rfl⟩ (fun hHeld => ?_)
   clear hK K
   refine norm_ (a' := ?_) ?_ ?_
   rotate_left
   ·show Act.put _ (some 10) _ = _
    simp only [Act.put, ls, lz, ln, i64_w, i32_w]
    rfl
   refine pure_ (i := 8) (N := some 11) (v := ?_) (a' := ?_) #[true, true, true, true, true, true, true, true, true, false, false, false, false, false, false, false, false, false] rfl rfl (any_of HT_.out (by kernel_rfl)) (fun _ _ _ h => h) (Or.inl ⟨by rfl, ?_⟩) ?_ ?_
   rotate_left
   ·intro w'
    go_simp
    with_reducible rfl
   rotate_left
   ·simp only [Act.put, ls, lz, ln, i64_w, i32_w]
    rfl
   refine pure_ (i := 9) (N := some 12) (v := ?_) (a' := ?_) #[true, true, true, true, true, true, true, true, true, true, false, false, false, false, false, false, false, false] rfl rfl (any_of HT_.out (by kernel_rfl)) (fun _ _ _ h => h) (Or.inl ⟨by rfl, ?_⟩) ?_ ?_
   rotate_left
   ·intro w'
    go_simp
    with_reducible rfl
   rotate_left
   ·simp only [Act.put, ls, lz, ln, i64_w, i32_w]
    rfl
   refine pure_ (i := 10) (N := some 13) (v := undef) (a' := ?_) #[true, true, true, true, true, true, true, true, true, true, true, false, false, false, false, false, false, false] rfl rfl (any_of HT_.out (by kernel_rfl)) (fun _ _ _ h => h) (Or.inr ⟨by rfl, rfl⟩) ?_ ?_
   rotate_left
   ·simp only [Act.put, ls, lz, ln, i64_w, i32_w]
    rfl
   refine pure_ (i := 11) (N := some 14) (v := undef) (a' := ?_) #[true, true, true, true, true, true, true, true, true, true, true, true, false, false, false, false, false, false] rfl rfl (any_of HT_.out (by kernel_rfl)) (fun _ _ _ h => h) (Or.inr ⟨by rfl, rfl⟩) ?_ ?_
   rotate_left
   ·simp only [Act.put, ls, lz, ln, i64_w, i32_w]
    rfl
   refine pure_ (i := 12) (N := some 15) (v := undef) (a' := ?_) #[true, true, true, true, true, true, true, true, true, true, true, true, true, false, false, false, false, false] rfl rfl (any_of HT_.out (by kernel_rfl)) (fun _ _ _ h => h) (Or.inr ⟨by rfl, rfl⟩) ?_ ?_
   rotate_left
   ·simp only [Act.put, ls, lz, ln, i64_w, i32_w]
    rfl
   refine pure_ (i := 13) (N := some 16) (v := undef) (a' := ?_) #[true, true, true, true, true, true, true, true, true, true, true, true, true, true, false, false, false, false] rfl rfl (any_of HT_.out (by kernel_rfl)) (fun _ _ _ h => h) (Or.inr ⟨by rfl, rfl⟩) ?_ ?_
   rotate_left
   ·simp only [Act.put, ls, lz, ln, i64_w, i32_w]
    rfl
   refine pure_ (i := 14) (N := some 17) (v := undef) (a' := ?_) #[true, true, true, true, true, true, true, true, true, true, true, true, true, true, true, false, false, false] rfl rfl (any_of HT_.out (by kernel_rfl)) (fun _ _ _ h => h) (Or.inr ⟨by rfl, rfl⟩) ?_ ?_
   rotate_left
   ·simp only [Act.put, ls, lz, ln, i64_w, i32_w]
    rfl
   refine pure_ (i := 15) (N := some 18) (v := undef) (a' := ?_) #[true, true, true, true, true, true, true, true, true, true, true, true, true, true, true, true, false, false] rfl rfl (any_of HT_.out (by kernel_rfl)) (fun _ _ _ h => h) (Or.inr ⟨by rfl, rfl⟩) ?_ ?_
   rotate_left
   ·simp only [Act.put, ls, lz, ln, i64_w, i32_w]
    rfl
   refine pure_ (i := 16) (N := some 19) (v := ?_) (a' := ?_) #[true, true, true, true, true, true, true, true, true, true, true, true, true, true, true, true, true, false] rfl rfl (any_of HT_.out (by kernel_rfl)) (fun _ _ _ h => h) (Or.inl ⟨by rfl, ?_⟩) ?_ ?_
   rotate_left
   ·intro w'
    go_simp
    with_reducible rfl
   rotate_left
   ·simp only [Act.put, ls, lz, ln, i64_w, i32_w]
    rfl
   refine pure_ (i := 17) (N := some 2) (v := ?_) (a' := ?_) #[true, true, true, true, true, true, true, true, true, true, true, true, true, true, true, true, true, true] rfl rfl (any_of HT_.out (by kernel_rfl)) (fun _ _ _ h => h) (Or.inl ⟨by rfl, ?_⟩) ?_ ?_
   rotate_left
   ·intro w'
    go_simp
    with_reducible rfl
   rotate_left
   ·simp only [Act.put, ls, lz, ln, i64_w, i32_w]
    rfl
   refine done_ (done_of HT_.out (by kernel_rfl)) ?_
   try go_wp2
   go_ret
   exact ⟨by first | rfl | (simp [errW_none, errW_some] <;> rfl) | (simp [*, errW_none, errW_some] <;> rfl), uH HB.out⟩
 ·replace c3 := Bool.eq_false_iff.mpr c3
  subst c3
  have H1 : (some false) = some r := by rw [if_neg (show ¬ (false = true) by decide)] at H; exact H
  clear H
  have H := H1
  clear H1
  obtain rfl := Option.some.inj H
  go_enter Try.func130, Try.ntmps130
  try go_wp2_with (first | ((with_reducible refine gate_dst (N := 1) rfl ?_); refine box_event ?hg (N := 1) ?hd (cs := #[.int .i64 a0_0, .slice A0_1 l0_1.length c0_1]) (t := 31) ?hr ?_; (case hd => rfl); (case hg => rfl); (case hr => first | (go_simp; done) | (go_simp; rfl)); intro gb167 hg w15 hbox hb; have n0_ := xH HB hb; have n1_ := zA (hbox); have n2_ := zA ((by rw [hg]; exact (below_size (uH HB.out)) : w.heap.size ≤ gb167)); have n3_ := zA ((by rw [hg]; exact (below_size (uH HB.out)) : w.heap.size ≤ gb167)); clear HB; have HB := n0_; have BK167 := n1_; have GW167 := n2_; have GE167 := n3_; have := geI GE167; clear n0_ n1_ n2_ n3_ hb hbox hg))
  have n0_ := zA (blk_drew BK167.out)
  have n1_ := zA (below_drew1 HB.out)
  clear BK167 HB
  have BK167 := n0_; have HB := n1_
  clear n0_ n1_
  refine start_ (n := 18) (S := fun w' => w'.cell? ⟨gb167, 0, none⟩ = some (.int .i64 a0_0) ∧ w'.cell? ⟨gb167, 1, none⟩ = some (.slice A0_1 l0_1.length c0_1)) (ds := []) #[false, false, false, false, false, false, false, false, false, false, false, false, false, false, false, false, false, false] (by kernel_rfl) rfl rfl ⟨(blk_cell BK167.out 0).trans rfl, (blk_cell BK167.out 1).trans rfl⟩ (fun hHeld => ?_); refine with_tabW impl_AreMoments.tab1 impl_AreMoments.bits1 (fun HT_ HW_ => ?_)
  generalize w15.drew = w16 at BK167 HB hHeld ⊢
  refine pure_ (i := 0) (N := some 3) (v := ?_) (a' := ?_) #[true, false, false, false, false, false, false, false, false, false, false, false, false, false, false, false, false, false] rfl rfl (any_of HT_.out (by kernel_rfl)) (fun _ _ _ h => h) (Or.inl ⟨by rfl, ?_⟩) ?_ ?_
  rotate_left
  ·intro w'
   go_simp
   with_reducible rfl
  rotate_left
  ·simp only [Act.put, ls, lz, ln, i64_w, i32_w]
   rfl
  refine take_ (i := 1) (N := some 4) (v := ?_) (a' := ?_) #[true, true, false, false, false, false, false, false, false, false, false, false, false, false, false, false, false, false] rfl rfl (take_ofW HT_.out HW_.out (by kernel_rfl)) (fun _ _ _ h => h) (Or.inl ⟨by rfl, ?_⟩) hHeld ?_ ?_
  rotate_left
  ·rintro w' ⟨s0, s1⟩
   go_simp
   with_reducible rfl
  rotate_left
  ·simp only [Act.put, ls, lz, ln, i64_w, i32_w]
   rfl
  refine one_ (i := 2) (N := some 5) #[true, true, true, false, false, false, false, false, false, false, false, false, false, false, false, false, false, false] rfl rfl (one_of HT_.out (by kernel_rfl)) (by decide) (fun K hK => ?_)
  refine goes_ Try.func149 (by kernel_rfl) rfl #[.int .i64 a0_0] (by rfl) rfl rfl (by (try simp only [la, lb, lc]); first | done | rfl | (simp only [ld, le]; rfl)) ?_
  with_reducible refine (impl_IsPrime.calls k a0_0 false _ A2.out).mono ?_
  rintro e w' ⟨rfl, ⟨nd, rfl⟩⟩
  refine ⟨_, rfl, ?_⟩
  refine hK.out _ _ ⟨(blk_cell BK167.out 0).trans rfl, (blk_cell BK167.out 1).trans rfl⟩ (fun hHeld => ?_)
  clear hK K
  refine norm_ (a' := ?_) ?_ ?_
  rotate_left
  ·show Act.put _ (some 5) _ = _
   simp only [Act.put, ls, lz, ln, i64_w, i32_w]
   rfl
  refine pure_ (i := 3) (N := some 6) (v := ?_) (a' := ?_) #[true, true, true, true, false, false, false, false, false, false, false, false, false, false, false, false, false, false] rfl rfl (any_of HT_.out (by kernel_rfl)) (fun _ _ _ h => h) (Or.inl ⟨by rfl, ?_⟩) ?_ ?_
  rotate_left
  ·intro w'
   go_simp
   with_reducible rfl
  rotate_left
  ·simp only [Act.put, ls, lz, ln, i64_w, i32_w]
   rfl
  refine pure_ (i := 4) (N := some 7) (v := undef) (a' := ?_) #[true, true, true, true, true, false, false, false, false, false, false, false, false, false, false, false, false, false] rfl rfl (any_of HT_.out (by kernel_rfl)) (fun _ _ _ h => h) (Or.inr ⟨by rfl, rfl⟩) ?_ ?_
  rotate_left
  ·simp only [Act.put, ls, lz, ln, i64_w, i32_w]
   rfl
  refine pure_ (i := 5) (N := some 8) (v := undef) (a' := ?_) #[true, true, true, true, true, true, false, false, false, false, false, false, false, false, false, false, false, false] rfl rfl (any_of HT_.out (by kernel_rfl)) (fun _ _ _ h => h) (Or.inr ⟨by rfl, rfl⟩) ?_ ?_
  rotate_left
  ·simp only [Act.put, ls, lz, ln, i64_w, i32_w]
   rfl
  refine pure_ (i := 6) (N := some 9) (v := undef) (a' := ?_) #[true, true, true, true, true, true, true, false, false, false, false, false, false, false, false, false, false, false] rfl rfl (any_of HT_.out (by kernel_rfl)) (fun _ _ _ h => h) (Or.inr ⟨by rfl, rfl⟩) ?_ ?_
  rotate_left
  ·simp only [Act.put, ls, lz, ln, i64_w, i32_w]
   rfl
  refine pure_ (i := 7) (N := some 10) (v := undef) (a' := ?_) #[true, true, true, true, true, true, true, true, false, false, false, false, false, false, false, false, false, false] rfl rfl (any_of HT_.out (by kernel_rfl)) (fun _ _ _ h => h) (Or.inr ⟨by rfl, rfl⟩) ?_ ?_
  rotate_left
  ·simp only [Act.put, ls, lz, ln, i64_w, i32_w]
   rfl
  refine pure_ (i := 8) (N := some 11) (v := ?_) (a' := ?_) #[true, true, true, true, true, true, true, true, true, false, false, false, false, false, false, false, false, false] rfl rfl (any_of HT_.out (by kernel_rfl)) (fun _ _ _ h => h) (Or.inl ⟨by rfl, ?_⟩) ?_ ?_
  rotate_left
  ·intro w'
   go_simp
   with_reducible rfl
  rotate_left
  ·simp only [Act.put, ls, lz, ln, i64_w, i32_w]
   rfl
  refine pure_ (i := 9) (N := some 12) (v := ?_) (a' := ?_) #[true, true, true, true, true, true, true, true, true, true, false, false, false, false, false, false, false, false] rfl rfl (any_of HT_.out (by kernel_rfl)) (fun _ _ _ h => h) (Or.inl ⟨by rfl, ?_⟩) ?_ ?_
  rotate_left
  ·intro w'
   go_simp
   with_reducible rfl
  rotate_left
  ·simp only [Act.put, ls, lz, ln, i64_w, i32_w]
   rfl
  refine pure_ (i := 10) (N := some 13) (v := undef) (a' := ?_) #[true, true, true, true, true, true, true, true, true, true, true, false, false, false, false, false, false, false] rfl rfl (any_of HT_.out (by kernel_rfl)) (fun _ _ _ h => h) (Or.inr ⟨by rfl, rfl⟩) ?_ ?_
  rotate_left
  ·simp only [Act.put, ls, lz, ln, i64_w, i32_w]
   rfl
  refine pure_ (i := 11) (N := some 14) (v := undef) (a' := ?_) #[true, true, true, true, true, true, true, true, true, true, true, true, false, false, false, false, false, false] rfl rfl (any_of HT_.out (by kernel_rfl)) (fun _ _ _ h => h) (Or.inr ⟨by rfl, rfl⟩) ?_ ?_
  rotate_left
  ·simp only [Act.put, ls, lz, ln, i64_w, i32_w]
   rfl
  refine pure_ (i := 12) (N := some 15) (v := undef) (a' := ?_) #[true, true, true, true, true, true, true, true, true, true, true, true, true, false, false, false, false, false] rfl rfl (any_of HT_.out (by kernel_rfl)) (fun _ _ _ h => h) (Or.inr ⟨by rfl, rfl⟩) ?_ ?_
  rotate_left
  ·simp only [Act.put, ls, lz, ln, i64_w, i32_w]
   rfl
  refine pure_ (i := 13) (N := some 16) (v := undef) (a' := ?_) #[true, true, true, true, true, true, true, true, true, true, true, true, true, true, false, false, false, false] rfl rfl (any_of HT_.out (by kernel_rfl)) (fun _ _ _ h => h) (Or.inr ⟨by rfl, rfl⟩) ?_ ?_
  rotate_left
  ·simp only [Act.put, ls, lz, ln, i64_w, i32_w]
   rfl
  refine pure_ (i := 14) (N := some 17) (v := undef) (a' := ?_) #[true, true, true, true, true, true, true, true, true, true, true, true, true, true, true, false, false, false] rfl rfl (any_of HT_.out (by kernel_rfl)) (fun _ _ _ h => h) (Or.inr ⟨by rfl, rfl⟩) ?_ ?_
  rotate_left
  ·simp only [Act.put, ls, lz, ln, i64_w, i32_w]
   rfl
  refine pure_ (i := 15) (N := some 18) (v := undef) (a' := ?_) #[true, true, true, true, true, true, true, true, true, true, true, true, true, true, true, true, false, false] rfl rfl (any_of HT_.out (by kernel_rfl)) (fun _ _ _ h => h) (Or.inr ⟨by rfl, rfl⟩) ?_ ?_
  rotate_left
  ·simp only [Act.put, ls, lz, ln, i64_w, i32_w]
   rfl
  refine pure_ (i := 16) (N := some 19) (v := ?_) (a' := ?_) #[true, true, true, true, true, true, true, true, true, true, true, true, true, true, true, true, true, false] rfl rfl (any_of HT_.out (by kernel_rfl)) (fun _ _ _ h => h) (Or.inl ⟨by rfl, ?_⟩) ?_ ?_
  rotate_left
  ·intro w'
   go_simp
   with_reducible rfl
  rotate_left
  ·simp only [Act.put, ls, lz, ln, i64_w, i32_w]
   rfl
  refine pure_ (i := 17) (N := some 2) (v := ?_) (a' := ?_) #[true, true, true, true, true, true, true, true, true, true, true, true, true, true, true, true, true, true] rfl rfl (any_of HT_.out (by kernel_rfl)) (fun _ _ _ h => h) (Or.inl ⟨by rfl, ?_⟩) ?_ ?_
  rotate_left
  ·intro w'
   go_simp
   with_reducible rfl
  rotate_left
  ·simp only [Act.put, ls, lz, ln, i64_w, i32_w]
   rfl
  refine done_ (done_of HT_.out (by kernel_rfl)) ?_
  try go_wp2
  go_ret
  exact ⟨by first | rfl | (simp [errW_none, errW_some] <;> rfl) | (simp [*, errW_none, errW_some] <;> rfl), uH HB.out⟩

end Go.Proofs.Ytokkabgkjhpecaa.Pr
/- Printed by a program of this session out of the translation: what these functions of the program compute, under the conditions that each theorem names. -/
namespace Go.Proofs.Ytokkabgkjhpecaa.Pr
open Go.RowKit Go.Proofs.YtokkabgkjhpecaaW.PrintWords Go.Proofs.YtokkabgkjhpecaaW.PrintLast Go.Proofs.YtokkabgkjhpecaaW.PrintMore
attribute [local go_sem] max2_int min2_int max_two min_two max_three min_three max_four min_four   -- for this text's walks alone
set_option linter.unusedVariables false
set_option linter.unusedSimpArgs false

/-! ### impl_IsPoly: function 154 -/
def impl_IsPoly.f (a0 : Int) (l1 : List Int) : Option (Bool) := if (l1.length : Int) ≤ 25 then ((impl_areAll_int64.f l1 (fun z_ => impl_field_has.f a0 z_)).bind fun t191 => (if t191 = true then (if (l1.length : Int) = 0 then (some true) else (if 0 ≤ (wrap64 ((l1.length : Int) - 1)) then (if (wrap64 ((l1.length : Int) - 1)) < (l1.length : Int) then (some ((rd l1 (wrap64 ((l1.length : Int) - 1))) != 0)) else (none)) else (none))) else (some false))) else (some false)
set_option maxHeartbeats 8000000 in
set_option maxRecDepth 100000 in
theorem impl_IsPoly.calls (a0 : Int) (A1 : Option Addr) (c1 : Nat) (l1 : List Int) (r : Bool) (w : World) (hr1 : Kd.C (Kd.int .i64) w A1 l1.length l1) (hc1 : l1.length ≤ c1) (h : impl_IsPoly.f a0 l1 = some r) :
  Calls Try.prog 154 #[.int .i64 a0, .slice A1 l1.length c1] w fun e w' => e = .returned (.bool r) ∧ Below w.heap.size w w' := by
 have hmf : ∀ (fn_ : Fn) (first_ cap_ : Array Value) (w_ : World), (Instr.makeFunc fn_ first_ cap_).run Try.prog w_ = .ok (.func fn_ first_ cap_) w_ := fun _ _ _ _ => rfl
 have HR1 := zA hr1
 have HC1 := zA hc1
 clear hr1 hc1
 have HB := zA (Below.refl w.heap.size w)
 have H : (if (l1.length : Int) ≤ 25 then ((impl_areAll_int64.f l1 (fun z_ => impl_field_has.f a0 z_)).bind fun t191 => (if t191 = true then (if (l1.length : Int) = 0 then (some true) else (if 0 ≤ (wrap64 ((l1.length : Int) - 1)) then (if (wrap64 ((l1.length : Int) - 1)) < (l1.length : Int) then (some ((rd l1 (wrap64 ((l1.length : Int) - 1))) != 0)) else (none)) else (none))) else (some false))) else (some false)) = some r := h
 clear h
 by_cases c3 : (l1.length : Int) ≤ 25
 ·rw [if_pos c3] at H
  have c3b0 : decide ((l1.length : Int) ≤ 25) = true := decide_eq_true c3
  have c3b1 : decide (l1.length ≤ 25) = true := decide_eq_true (by omega)
  clear c3
  replace H := Option.bind_eq_some_iff.mp H
  obtain ⟨t191, A40, H⟩ := H
  replace H : (if t191 = true then (if (l1.length : Int) = 0 then (some true) else (if 0 ≤ (wrap64 ((l1.length : Int) - 1)) then (if (wrap64 ((l1.length : Int) - 1)) < (l1.length : Int) then (some ((rd l1 (wrap64 ((l1.length : Int) - 1))) != 0)) else (none)) else (none))) else (some false)) = some r := H
  have A4 := zA A40
  clear A40
  by_cases c5 : t191 = true
  ·subst c5
   have H1 : (if (l1.length : Int) = 0 then (some true) else (if 0 ≤ (wrap64 ((l1.length : Int) - 1)) then (if (wrap64 ((l1.length : Int) - 1)) < (l1.length : Int) then (some ((rd l1 (wrap64 ((l1.length : Int) - 1))) != 0)) else (none)) else (none))) = some r := by rw [if_pos rfl] at H; exact H
   clear H
   have H := H1
   clear H1
   by_cases c6 : (l1.length : Int) = 0
   ·rw [if_pos c6] at H
    have c6b0 : ((l1.length : Int) == 0) = true := beq_iff_eq.mpr c6
    have c6b1 : ((l1.length : Int) != 0) = false := bne_eq_false_iff_eq.mpr c6
    clear c6
    obtain rfl := Option.some.inj H
    go_enter Try.func154, Try.ntmps154
    go_wp2_with (first | (go_at_call 146; (with_reducible refine (impl_areAll_int64.calls _ _ l1 _ (fun z_ => impl_field_has.f a0 z_) true _ ?side1 ?side2 ?side3 A4.out).mono ?_); (case side1 => exact uC HR1.out); (case side2 => exact HC1.out); (case side3 => exact FnI.of Try.func77 (by kernel_rfl) rfl (fun z_ r_ hr_ W_ hW_ => calls_of_args (args' := #[.int .i64 a0, .int .i64 z_]) (by simp) ((impl_field_has.calls a0 z_ r_ W_  hr_).mono fun e_ W2_ h_ => ⟨h_.1, h_.2.below⟩))); rintro e w7 ⟨rfl, hb⟩; have n0_ := xH HB hb; clear HB; have HB := n0_; clear n0_; (try clear hb); (try clear hb2); (try clear hk); (try clear hi)))
    go_ret
    exact ⟨by first | rfl | (simp [errW_none, errW_some] <;> rfl) | (simp [*, errW_none, errW_some] <;> rfl), uH HB.out⟩
   ·rw [if_neg c6] at H
    have c6b0 : ((l1.length : Int) == 0) = false := beq_eq_false_iff_ne.mpr c6
    have c6b1 : ((l1.length : Int) != 0) = true := bne_iff_ne.mpr c6
    have c6b2 : ¬ (l1 = []) := fun h_ => c6 (by rw [h_]; rfl)
    obtain ⟨ji8, hji8⟩ : ∃ j_ : Int, (wrap64 ((l1.length : Int) - 1)) = j_ := ⟨_, rfl⟩
    replace H : (if 0 ≤ (ji8) then (if (ji8) < (l1.length : Int) then (some ((rd l1 (ji8)) != 0)) else (none)) else (none)) = some r := by first | (rw [hji8] at H; exact H) | (simp only [hji8] at H ⊢; exact H)
    (try rw [hji8] at A4)
    have hji8w : (IntKind.i64.wrap ((l1.length : Int) - 1)) = ji8 := (i64_w _).trans hji8
    by_cases c9 : 0 ≤ (ji8)
    ·rw [if_pos c9] at H
     have c9b0 : decide (0 ≤ (ji8)) = true := decide_eq_true c9
     clear c9
     by_cases c10 : (ji8) < (l1.length : Int)
     ·rw [if_pos c10] at H
      have c10b0 : decide ((ji8) < (l1.length : Int)) = true := decide_eq_true c10
      clear c10
      obtain rfl := Option.some.inj H
      go_enter Try.func154, Try.ntmps154
      go_wp2_with (first | (go_at_call 146; (with_reducible refine (impl_areAll_int64.calls _ _ l1 _ (fun z_ => impl_field_has.f a0 z_) true _ ?side1 ?side2 ?side3 A4.out).mono ?_); (case side1 => exact uC HR1.out); (case side2 => exact HC1.out); (case side3 => exact FnI.of Try.func77 (by kernel_rfl) rfl (fun z_ r_ hr_ W_ hW_ => calls_of_args (args' := #[.int .i64 a0, .int .i64 z_]) (by simp) ((impl_field_has.calls a0 z_ r_ W_  hr_).mono fun e_ W2_ h_ => ⟨h_.1, h_.2.below⟩))); rintro e w11 ⟨rfl, hb⟩; have n0_ := xH HB hb; clear HB; have HB := n0_; clear n0_; (try clear hb); (try clear hb2); (try clear hk); (try clear hi); have p192 : 0 ≤ ((ji8) : Int) := of_decide_eq_true (by first | (with_reducible assumption) | assumption); have q192 : (ji8) < (l1.length : Int) := of_decide_eq_true (by first | (with_reducible assumption) | assumption); obtain ⟨ad192, e192, hx192_0⟩ := Kd.at_int HR1.out (ji8) p192 q192; cases e192; replace hx192_0 := (HB.out.cell (World.block_lt_of_cell? w _ hx192_0)).trans hx192_0; replace p192 := eq_true p192; replace q192 := eq_true q192))
      go_ret
      exact ⟨by first | rfl | (simp [errW_none, errW_some] <;> rfl) | (simp only [← hji8]; first | rfl | (simp [errW_none, errW_some] <;> rfl)) | (simp [*, errW_none, errW_some] <;> rfl), uH HB.out⟩
     ·rw [if_neg c10] at H
      exact absurd H (by simp)
    ·rw [if_neg c9] at H
     exact absurd H (by simp)
  ·replace c5 := Bool.eq_false_iff.mpr c5
   subst c5
   have H1 : (some false) = some r := by rw [if_neg (show ¬ (false = true) by decide)] at H; exact H
   clear H
   have H := H1
   clear H1
   obtain rfl := Option.some.inj H
   go_enter Try.func154, Try.ntmps154
   go_wp2_with (first | (go_at_call 146; (with_reducible refine (impl_areAll_int64.calls _ _ l1 _ (fun z_ => impl_field_has.f a0 z_) false _ ?side1 ?side2 ?side3 A4.out).mono ?_); (case side1 => exact uC HR1.out); (case side2 => exact HC1.out); (case side3 => exact FnI.of Try.func77 (by kernel_rfl) rfl (fun z_ r_ hr_ W_ hW_ => calls_of_args (args' := #[.int .i64 a0, .int .i64 z_]) (by simp) ((impl_field_has.calls a0 z_ r_ W_  hr_).mono fun e_ W2_ h_ => ⟨h_.1, h_.2.below⟩))); rintro e w12 ⟨rfl, hb⟩; have n0_ := xH HB hb; clear HB; have HB := n0_; clear n0_; (try clear hb); (try clear hb2); (try clear hk); (try clear hi)))
   go_ret
   exact ⟨by first | rfl | (simp [errW_none, errW_some] <;> rfl) | (simp [*, errW_none, errW_some] <;> rfl), uH HB.out⟩
 ·rw [if_neg c3] at H
  have c3b0 : decide ((l1.length : Int) ≤ 25) = false := decide_eq_false c3
  have c3b1 : decide (l1.length ≤ 25) = false := decide_eq_false (by omega)
  clear c3
  obtain rfl := Option.some.inj H
  go_enter Try.func154, Try.ntmps154
  go_wp2
  go_ret
  exact ⟨by first | rfl | (simp [errW_none, errW_some] <;> rfl) | (simp [*, errW_none, errW_some] <;> rfl), uH HB.out⟩

end Go.Proofs.Ytokkabgkjhpecaa.Pr
/- Printed by a program of this session out of the translation: what these functions of the program compute, under the conditions that each theorem names. -/
namespace Go.Proofs.Ytokkabgkjhpecaa.Pr
open Go.RowKit Go.Proofs.YtokkabgkjhpecaaW.PrintWords Go.Proofs.YtokkabgkjhpecaaW.PrintLast Go.Proofs.YtokkabgkjhpecaaW.PrintMore
attribute [local go_sem] max2_int min2_int max_two min_two max_three min_three max_four min_four   -- for this text's walks alone
set_option linter.unusedVariables false
set_option linter.unusedSimpArgs false

/-! ### impl_polyCode_1: function 153 -/
def impl_polyCode_1.f (l0 : List Int) (a1_0 : Int) : Option (Bool) := (impl_IsPoly.f a1_0 l0).bind fun t193 => (some t193)
set_option maxHeartbeats 8000000 in
set_option maxRecDepth 100000 in
theorem impl_polyCode_1.calls (A0 : Option Addr) (c0 : Nat) (l0 : List Int) (gc1 : Nat) (a1_0 : Int) (r : Bool) (w : World) (hr0 : Kd.C (Kd.int .i64) w A0 l0.length l0) (hc0 : l0.length ≤ c0) (hb1 : w.heap[gc1]? = some (.cells #[.int .i64 a1_0] 2 (0, 0))) (h : impl_polyCode_1.f l0 a1_0 = some r) :
  Calls Try.prog 153 #[.slice A0 l0.length c0, .pointer (some ⟨gc1, 0, none⟩)] w fun e w' => e = .returned (.bool r) ∧ Below w.heap.size w w' := by
 have HR0 := zA hr0
 have HC0 := zA hc0
 clear hr0 hc0
 have BK1 := zA hb1
 clear hb1
 have HB := zA (Below.refl w.heap.size w)
 have H : ((impl_IsPoly.f a1_0 l0).bind fun t193 => (some t193)) = some r := h
 clear h
 replace H := Option.bind_eq_some_iff.mp H
 obtain ⟨t193, A30, H⟩ := H
 replace H : (some t193) = some r := H
 have A3 := zA A30
 clear A30
 obtain rfl := Option.some.inj H
 have hcz4_0 : w.cell? ⟨gc1, 0, none⟩ = some (.int .i64 a1_0) := (blk_cell BK1.out 0).trans rfl
 have hfz4_0 := blk_frozen BK1.out 0
 go_enter Try.func153, Try.ntmps153
 go_wp2_with (first | ((with_reducible refine gate_callee (f := 154) rfl ?_); refine goesL_ (some 6) rfl rfl Try.func154 (by kernel_rfl) rfl #[.int .i64 a1_0, .slice A0 l0.length c0] rfl (by (try simp only [la, lb, lc]); first | done | rfl | (simp only [ld, le]; rfl)) ?_; (with_reducible refine (impl_IsPoly.calls a1_0 _ _ l0 t193 _ ?side1 ?side2 A3.out).mono ?_); (case side1 => exact uC HR0.out); (case side2 => exact HC0.out); rintro e w5 ⟨rfl, hb⟩; refine ⟨_, rfl, ?_⟩; have n0_ := xB BK1 hb; have n1_ := xH HB hb; clear BK1 HB; have BK1 := n0_; have HB := n1_; clear n0_ n1_; (try clear hb); (try clear hb2); (try clear hk); (try clear hi)))
 go_ret
 exact ⟨by first | rfl | (simp [errW_none, errW_some] <;> rfl) | (simp [*, errW_none, errW_some] <;> rfl), uH HB.out⟩

end Go.Proofs.Ytokkabgkjhpecaa.Pr
/- Lists of lists all of whose elements answer yes: what areAll computes. -/
namespace Go.Proofs.Ytokkabgkjhpecaa.Pr
open Go.RowKit Go.Proofs.YtokkabgkjhpecaaW.PrintWords Go.Proofs.YtokkabgkjhpecaaW.PrintLast Go.Proofs.YtokkabgkjhpecaaW.PrintMore
def impl_areAll_rows.f (l : List (List Int)) (p : List Int → Option Bool) : Option Bool := if l.length < 4611686018427387904 then allO p l else none
theorem indexFunc_rows (p : List Int → Option Bool) (l : List (List Int)) (hl : l.length < 4611686018427387904) (d : Nat) : ∀ (k i : Nat) (r : Bool), i + d = l.length → d < k → allO p (l.drop i) = some r →
    ∃ j, slices_IndexFunc_rows.l0 k l (fun z_ => impl_areAll_rows_1.f z_ p) (l.length : Int) (i : Int) = some j ∧ decide (j ≥ 0) = !r := by
  induction d with
  | zero =>
    intro k i r hi hk h
    obtain ⟨k, rfl⟩ : ∃ m, k = m + 1 := ⟨k - 1, by omega⟩
    simp only [slices_IndexFunc_rows.l0]
    rw [if_neg (by omega)]
    rw [List.drop_eq_nil_of_le (by omega)] at h
    simp only [allO, Option.some.injEq] at h
    subst h
    exact ⟨-1, rfl, rfl⟩
  | succ d ih =>
    intro k i r hi hk h
    obtain ⟨k, rfl⟩ : ∃ m, k = m + 1 := ⟨k - 1, by omega⟩
    simp only [slices_IndexFunc_rows.l0]
    rw [if_pos (by omega), if_pos (by omega), if_pos (by omega)]
    rw [drop_cons l [] i (by omega)] at h
    simp only [allO] at h
    have e : rd_L1 l (i : Int) = l.getD i [] := by simp [rd_L1]
    rw [e]
    obtain ⟨b, hb, h⟩ := Option.bind_eq_some_iff.mp h
    simp only [impl_areAll_rows_1.f, hb, Option.bind_some]
    cases b with
    | true =>
      rw [if_pos rfl] at h
      simp only [Bool.not_true, Bool.false_eq_true, if_false]
      rw [wrap_succ (n := l.length) (by omega) (by omega) hl]
      exact ih k (i + 1) r (by omega) (by omega) h
    | false =>
      simp only [Bool.false_eq_true, if_false, Option.some.injEq] at h
      subst h
      simp only [Bool.not_false, if_true]
      exact ⟨i, rfl, by simp⟩

theorem areAllK_rows {l : List (List Int)} {p : List Int → Option Bool} {r : Bool} (h : impl_areAll_rows.f l p = some r) : impl_areAll_rowsK.f (l.length + 1) l p = some r := by
  unfold impl_areAll_rows.f at h
  split at h
  · rename_i hl
    obtain ⟨j, h1, h2⟩ := indexFunc_rows p l hl l.length (l.length + 1) 0 r (by omega) (by omega) (by simpa using h)
    unfold impl_areAll_rowsK.f slices_ContainsFunc_rows.f slices_IndexFunc_rows.f
    have h1' : slices_IndexFunc_rows.l0 (l.length + 1) l (fun z_ => impl_areAll_rows_1.f z_ p) (l.length : Int) 0 = some j := h1
    rw [h1']
    simp only [Option.bind_some, h2, Bool.not_not]
  · cases h

theorem impl_areAll_rows.calls (A0 : Option Addr) (c0 : Nat) (l0 : List (List Int)) (F1 : Value) (a1 : (List Int → Option Bool)) (r : Bool) (w : World) (hr0 : Kd.C (Kd.slice 2 (Kd.int .i64)) w A0 l0.length l0) (hc0 : l0.length ≤ c0) (hF1 : FnL Try.prog w F1 a1) (h : impl_areAll_rows.f l0 a1 = some r) :
    Calls Try.prog 152 #[.slice A0 l0.length c0, F1] w fun e w' => e = .returned (.bool r) ∧ Below w.heap.size w w' :=
  impl_areAll_rowsK.calls _ A0 c0 l0 F1 a1 r w hr0 hc0 hF1 (areAllK_rows h)
end Go.Proofs.Ytokkabgkjhpecaa.Pr
/- Printed by a program of this session out of the translation: what these functions of the program compute, under the conditions that each theorem names. -/
namespace Go.Proofs.Ytokkabgkjhpecaa.Pr
open Go.RowKit Go.Proofs.YtokkabgkjhpecaaW.PrintWords Go.Proofs.YtokkabgkjhpecaaW.PrintLast Go.Proofs.YtokkabgkjhpecaaW.PrintMore
attribute [local go_sem] max2_int min2_int max_two min_two max_three min_three max_four min_four   -- for this text's walks alone
set_option linter.unusedVariables false
set_option linter.unusedSimpArgs false

/-! ### impl_polyCode: function 132 -/
def impl_polyCode.f (k : Nat) (a0 : Int) (a1 : Bool) (l2 : List (List Int)) : Option (Int) := (impl_areAll_rows.f l2 (fun z_ => impl_polyCode_1.f z_ a0)).bind fun t195 => (if t195 = true then ((impl_IsPrime.f k a0).bind fun t196 => (if t196 = true then (if a1 = true then (some 0) else (some 2)) else (some 2))) else (some 1))
theorem impl_polyCode.mono : ∀ a0 a1 a2 k, LeO (impl_polyCode.f k a0 a1 a2) (impl_polyCode.f (k + 1) a0 a1 a2) := by
 intro a0 a1 a2 k
 unfold impl_polyCode.f
 repeat' first
   | (with_reducible exact impl_IsPrime.mono _ _)
   | (with_reducible exact LeO.refl _)
   | (with_reducible exact LeO.none _)
   | (with_reducible refine LeO.ite ?_ ?_)
   | (with_reducible refine LeO.bind ?_ (fun _ => ?_))
   | exact impl_IsPrime.mono _ _
   | exact LeO.none _
   | refine LeO.ite ?_ ?_
   | refine LeO.bind ?_ (fun _ => ?_)
set_option maxHeartbeats 8000000 in
set_option maxRecDepth 100000 in
theorem impl_polyCode.calls (k : Nat) (a0 : Int) (F1 : Value) (a1 : Bool) (A2 : Option Addr) (c2 : Nat) (l2 : List (List Int)) (r : Int) (w : World) (hF1 : FnB Try.prog w F1 a1) (hr2 : Kd.C (Kd.slice 2 (Kd.int .i64)) w A2 l2.length l2) (hc2 : l2.length ≤ c2) (h : impl_polyCode.f k a0 a1 l2 = some r) :
  Calls Try.prog 132 #[.int .i64 a0, F1, .slice A2 l2.length c2] w fun e w' => e = .returned (.int .i64 r) ∧ Below w.heap.size w w' := by
 have hmf : ∀ (fn_ : Fn) (first_ cap_ : Array Value) (w_ : World), (Instr.makeFunc fn_ first_ cap_).run Try.prog w_ = .ok (.func fn_ first_ cap_) w_ := fun _ _ _ _ => rfl
 obtain ⟨G1, fi1, ca1, rfl, hen1, hF1⟩ := hF1
 have hen1 : ∀ (args_ : Array Value) (w_ : World), (callFunc G1 args_).run Try.prog w_ = .ok (.enter G1 args_) w_ := hen1
 have HF1 := zA hF1
 clear hF1
 have HR2 := zA hr2
 have HC2 := zA hc2
 clear hr2 hc2
 have HB := zA (Below.refl w.heap.size w)
 have H : ((impl_areAll_rows.f l2 (fun z_ => impl_polyCode_1.f z_ a0)).bind fun t195 => (if t195 = true then ((impl_IsPrime.f k a0).bind fun t196 => (if t196 = true then (if a1 = true then (some 0) else (some 2)) else (some 2))) else (some 1))) = some r := h
 clear h
 replace H := Option.bind_eq_some_iff.mp H
 obtain ⟨t195, A40, H⟩ := H
 replace H : (if t195 = true then ((impl_IsPrime.f k a0).bind fun t196 => (if t196 = true then (if a1 = true then (some 0) else (some 2)) else (some 2))) else (some 1)) = some r := H
 have A4 := zA A40
 clear A40
 by_cases c5 : t195 = true
 ·subst c5
  have H1 : ((impl_IsPrime.f k a0).bind fun t196 => (if t196 = true then (if a1 = true then (some 0) else (some 2)) else (some 2))) = some r := by rw [if_pos rfl] at H; exact H
  clear H
  have H := H1
  clear H1
  replace H := Option.bind_eq_some_iff.mp H
  obtain ⟨t196, A60, H⟩ := H
  replace H : (if t196 = true then (if a1 = true then (some 0) else (some 2)) else (some 2)) = some r := H
  have A6 := zA A60
  clear A60
  by_cases c7 : t196 = true
  ·subst c7
   have H1 : (if a1 = true then (some 0) else (some 2)) = some r := by rw [if_pos rfl] at H; exact H
   clear H
   have H := H1
   clear H1
   by_cases c8 : a1 = true
   ·subst c8
    have H1 : (some 0) = some r := by rw [if_pos rfl] at H; exact H
    clear H
    have H := H1
    clear H1
    obtain rfl := Option.some.inj H
    go_enter Try.func132, Try.ntmps132
    go_wp2_with (first | ((with_reducible refine gate_dst (N := 3) rfl ?_); refine box_event ?hg (N := 3) ?hd (cs := #[.int .i64 a0]) (t := 2) ?hr ?_; (case hd => rfl); (case hg => rfl); (case hr => first | (go_simp; done) | (go_simp; rfl)); intro gb194 hg w9 hbox hb; have n0_ := xH HB hb; have n1_ := zA (hbox); have n2_ := zA ((by rw [hg]; exact (below_size (uH HB.out)) : w.heap.size ≤ gb194)); have n3_ := zA ((by rw [hg]; exact (below_size (uH HB.out)) : w.heap.size ≤ gb194)); clear HB; have HB := n0_; have BK194 := n1_; have GW194 := n2_; have GE194 := n3_; have := geI GE194; clear n0_ n1_ n2_ n3_ hb hbox hg) | ((with_reducible refine gate_callee (f := 152) rfl ?_); refine goesL_ (some 10) rfl rfl Try.func152 (by kernel_rfl) rfl #[.slice A2 l2.length c2, (.func (.func 153) #[] #[.pointer (some ⟨gb194, 0, none⟩)])] rfl (by (try simp only [la, lb, lc]); first | done | rfl | (simp only [ld, le]; rfl)) ?_; (with_reducible refine (impl_areAll_rows.calls _ _ l2 _ (fun z_ => impl_polyCode_1.f z_ a0) true _ ?side1 ?side2 ?side3 A4.out).mono ?_); (case side1 => exact uC ((Kd.C_below HR2.out HB.out))); (case side2 => exact HC2.out); (case side3 => exact FnL.of Try.func153 (by kernel_rfl) rfl (fun z_ r_ A_ c_ hr_ W_ hW_ hC_ hc_ => calls_of_args (args' := #[.slice A_ z_.length c_, .pointer (some ⟨gb194, 0, none⟩)]) (by simp) ((impl_polyCode_1.calls A_ c_ z_ _ a0 r_ W_ hC_ hc_ (blk_below (g := gb194) (o := .cells #[.int .i64 a0] 2 (0, 0)) (uB BK194.out) hW_) hr_).mono fun e_ W2_ h_ => ⟨h_.1, h_.2⟩))); rintro e w10 ⟨rfl, hb⟩; refine ⟨_, rfl, ?_⟩; have n0_ := xB BK194 hb; have n1_ := xH HB hb; clear BK194 HB; have BK194 := n0_; have HB := n1_; clear n0_ n1_; (try clear hb); (try clear hb2); (try clear hk); (try clear hi); have hcz11_0 : w10.cell? ⟨gb194, 0, none⟩ = some (.int .i64 a0) := (blk_cell BK194.out 0).trans rfl; have hfz11_0 := blk_frozen BK194.out 0) | ((with_reducible refine gate_callee (f := 149) rfl ?_); refine goesL_ (some 14) rfl rfl Try.func149 (by kernel_rfl) rfl #[.int .i64 a0] rfl (by (try simp only [la, lb, lc]); first | done | rfl | (simp only [ld, le]; rfl)) ?_; (with_reducible refine (impl_IsPrime.calls k a0 true _ A6.out).mono ?_); rintro e w' ⟨rfl, ⟨nd, rfl⟩⟩; refine ⟨_, rfl, ?_⟩) | (go_at_fn G1; refine calls_of_args (args' := fi1 ++ ca1) (by simp) ?_; refine (HF1.out _ (uH HB.out)).mono ?_; rintro e w12 ⟨rfl, hb⟩; have n0_ := xB BK194 hb; have n1_ := xH HB hb; clear BK194 HB; have BK194 := n0_; have HB := n1_; clear n0_ n1_; (try clear hb)))
    go_ret
    exact ⟨by first | rfl | (simp [errW_none, errW_some] <;> rfl) | (simp [*, errW_none, errW_some] <;> rfl), uH HB.out⟩
   ·replace c8 := Bool.eq_false_iff.mpr c8
    subst c8
    have H1 : (some 2) = some r := by rw [if_neg (show ¬ (false = true) by decide)] at H; exact H
    clear H
    have H := H1
    clear H1
    obtain rfl := Option.some.inj H
    go_enter Try.func132, Try.ntmps132
    go_wp2_with (first | ((with_reducible refine gate_dst (N := 3) rfl ?_); refine box_event ?hg (N := 3) ?hd (cs := #[.int .i64 a0]) (t := 2) ?hr ?_; (case hd => rfl); (case hg => rfl); (case hr => first | (go_simp; done) | (go_simp; rfl)); intro gb194 hg w13 hbox hb; have n0_ := xH HB hb; have n1_ := zA (hbox); have n2_ := zA ((by rw [hg]; exact (below_size (uH HB.out)) : w.heap.size ≤ gb194)); have n3_ := zA ((by rw [hg]; exact (below_size (uH HB.out)) : w.heap.size ≤ gb194)); clear HB; have HB := n0_; have BK194 := n1_; have GW194 := n2_; have GE194 := n3_; have := geI GE194; clear n0_ n1_ n2_ n3_ hb hbox hg) | ((with_reducible refine gate_callee (f := 152) rfl ?_); refine goesL_ (some 10) rfl rfl Try.func152 (by kernel_rfl) rfl #[.slice A2 l2.length c2, (.func (.func 153) #[] #[.pointer (some ⟨gb194, 0, none⟩)])] rfl (by (try simp only [la, lb, lc]); first | done | rfl | (simp only [ld, le]; rfl)) ?_; (with_reducible refine (impl_areAll_rows.calls _ _ l2 _ (fun z_ => impl_polyCode_1.f z_ a0) true _ ?side1 ?side2 ?side3 A4.out).mono ?_); (case side1 => exact uC ((Kd.C_below HR2.out HB.out))); (case side2 => exact HC2.out); (case side3 => exact FnL.of Try.func153 (by kernel_rfl) rfl (fun z_ r_ A_ c_ hr_ W_ hW_ hC_ hc_ => calls_of_args (args' := #[.slice A_ z_.length c_, .pointer (some ⟨gb194, 0, none⟩)]) (by simp) ((impl_polyCode_1.calls A_ c_ z_ _ a0 r_ W_ hC_ hc_ (blk_below (g := gb194) (o := .cells #[.int .i64 a0] 2 (0, 0)) (uB BK194.out) hW_) hr_).mono fun e_ W2_ h_ => ⟨h_.1, h_.2⟩))); rintro e w14 ⟨rfl, hb⟩; refine ⟨_, rfl, ?_⟩; have n0_ := xB BK194 hb; have n1_ := xH HB hb; clear BK194 HB; have BK194 := n0_; have HB := n1_; clear n0_ n1_; (try clear hb); (try clear hb2); (try clear hk); (try clear hi); have hcz15_0 : w14.cell? ⟨gb194, 0, none⟩ = some (.int .i64 a0) := (blk_cell BK194.out 0).trans rfl; have hfz15_0 := blk_frozen BK194.out 0) | ((with_reducible refine gate_callee (f := 149) rfl ?_); refine goesL_ (some 14) rfl rfl Try.func149 (by kernel_rfl) rfl #[.int .i64 a0] rfl (by (try simp only [la, lb, lc]); first | done | rfl | (simp only [ld, le]; rfl)) ?_; (with_reducible refine (impl_IsPrime.calls k a0 true _ A6.out).mono ?_); rintro e w' ⟨rfl, ⟨nd, rfl⟩⟩; refine ⟨_, rfl, ?_⟩) | (go_at_fn G1; refine calls_of_args (args' := fi1 ++ ca1) (by simp) ?_; refine (HF1.out _ (uH HB.out)).mono ?_; rintro e w16 ⟨rfl, hb⟩; have n0_ := xB BK194 hb; have n1_ := xH HB hb; clear BK194 HB; have BK194 := n0_; have HB := n1_; clear n0_ n1_; (try clear hb)))
    go_ret
    exact ⟨by first | rfl | (simp [errW_none, errW_some] <;> rfl) | (simp [*, errW_none, errW_some] <;> rfl), uH HB.out⟩
  ·replace c7 := Bool.eq_false_iff.mpr c7
   subst c7
   have H1 : (some 2) = some r := by rw [if_neg (show ¬ (false = true) by decide)] at H; exact H
   clear H
   have H := H1
   clear H1
   obtain rfl := Option.some.inj H
   go_enter Try.func132, Try.ntmps132
   go_wp2_with (first | ((with_reducible refine gate_dst (N := 3) rfl ?_); refine box_event ?hg (N := 3) ?hd (cs := #[.int .i64 a0]) (t := 2) ?hr ?_; (case hd => rfl); (case hg => rfl); (case hr => first | (go_simp; done) | (go_simp; rfl)); intro gb194 hg w17 hbox hb; have n0_ := xH HB hb; have n1_ := zA (hbox); have n2_ := zA ((by rw [hg]; exact (below_size (uH HB.out)) : w.heap.size ≤ gb194)); have n3_ := zA ((by rw [hg]; exact (below_size (uH HB.out)) : w.heap.size ≤ gb194)); clear HB; have HB := n0_; have BK194 := n1_; have GW194 := n2_; have GE194 := n3_; have := geI GE194; clear n0_ n1_ n2_ n3_ hb hbox hg) | ((with_reducible refine gate_callee (f := 152) rfl ?_); refine goesL_ (some 10) rfl rfl Try.func152 (by kernel_rfl) rfl #[.slice A2 l2.length c2, (.func (.func 153) #[] #[.pointer (some ⟨gb194, 0, none⟩)])] rfl (by (try simp only [la, lb, lc]); first | done | rfl | (simp only [ld, le]; rfl)) ?_; (with_reducible refine (impl_areAll_rows.calls _ _ l2 _ (fun z_ => impl_polyCode_1.f z_ a0) true _ ?side1 ?side2 ?side3 A4.out).mono ?_); (case side1 => exact uC ((Kd.C_below HR2.out HB.out))); (case side2 => exact HC2.out); (case side3 => exact FnL.of Try.func153 (by kernel_rfl) rfl (fun z_ r_ A_ c_ hr_ W_ hW_ hC_ hc_ => calls_of_args (args' := #[.slice A_ z_.length c_, .pointer (some ⟨gb194, 0, none⟩)]) (by simp) ((impl_polyCode_1.calls A_ c_ z_ _ a0 r_ W_ hC_ hc_ (blk_below (g := gb194) (o := .cells #[.int .i64 a0] 2 (0, 0)) (uB BK194.out) hW_) hr_).mono fun e_ W2_ h_ => ⟨h_.1, h_.2⟩))); rintro e w18 ⟨rfl, hb⟩; refine ⟨_, rfl, ?_⟩; have n0_ := xB BK194 hb; have n1_ := xH HB hb; clear BK194 HB; have BK194 := n0_; have HB := n1_; clear n0_ n1_; (try clear hb); (try clear hb2); (try clear hk); (try clear hi); have hcz19_0 : w18.cell? ⟨gb194, 0, none⟩ = some (.int .i64 a0) := (blk_cell BK194.out 0).trans rfl; have hfz19_0 := blk_frozen BK194.out 0) | ((with_reducible refine gate_callee (f := 149) rfl ?_); refine goesL_ (some 14) rfl rfl Try.func149 (by kernel_rfl) rfl #[.int .i64 a0] rfl (by (try simp only [la, lb, lc]); first | done | rfl | (simp only [ld, le]; rfl)) ?_; (with_reducible refine (impl_IsPrime.calls k a0 false _ A6.out).mono ?_); rintro e w' ⟨rfl, ⟨nd, rfl⟩⟩; refine ⟨_, rfl, ?_⟩))
   go_ret
   exact ⟨by first | rfl | (simp [errW_none, errW_some] <;> rfl) | (simp [*, errW_none, errW_some] <;> rfl), uH HB.out⟩
 ·replace c5 := Bool.eq_false_iff.mpr c5
  subst c5
  have H1 : (some 1) = some r := by rw [if_neg (show ¬ (false = true) by decide)] at H; exact H
  clear H
  have H := H1
  clear H1
  obtain rfl := Option.some.inj H
  go_enter Try.func132, Try.ntmps132
  go_wp2_with (first | ((with_reducible refine gate_dst (N := 3) rfl ?_); refine box_event ?hg (N := 3) ?hd (cs := #[.int .i64 a0]) (t := 2) ?hr ?_; (case hd => rfl); (case hg => rfl); (case hr => first | (go_simp; done) | (go_simp; rfl)); intro gb194 hg w20 hbox hb; have n0_ := xH HB hb; have n1_ := zA (hbox); have n2_ := zA ((by rw [hg]; exact (below_size (uH HB.out)) : w.heap.size ≤ gb194)); have n3_ := zA ((by rw [hg]; exact (below_size (uH HB.out)) : w.heap.size ≤ gb194)); clear HB; have HB := n0_; have BK194 := n1_; have GW194 := n2_; have GE194 := n3_; have := geI GE194; clear n0_ n1_ n2_ n3_ hb hbox hg) | ((with_reducible refine gate_callee (f := 152) rfl ?_); refine goesL_ (some 10) rfl rfl Try.func152 (by kernel_rfl) rfl #[.slice A2 l2.length c2, (.func (.func 153) #[] #[.pointer (some ⟨gb194, 0, none⟩)])] rfl (by (try simp only [la, lb, lc]); first | done | rfl | (simp only [ld, le]; rfl)) ?_; (with_reducible refine (impl_areAll_rows.calls _ _ l2 _ (fun z_ => impl_polyCode_1.f z_ a0) false _ ?side1 ?side2 ?side3 A4.out).mono ?_); (case side1 => exact uC ((Kd.C_below HR2.out HB.out))); (case side2 => exact HC2.out); (case side3 => exact FnL.of Try.func153 (by kernel_rfl) rfl (fun z_ r_ A_ c_ hr_ W_ hW_ hC_ hc_ => calls_of_args (args' := #[.slice A_ z_.length c_, .pointer (some ⟨gb194, 0, none⟩)]) (by simp) ((impl_polyCode_1.calls A_ c_ z_ _ a0 r_ W_ hC_ hc_ (blk_below (g := gb194) (o := .cells #[.int .i64 a0] 2 (0, 0)) (uB BK194.out) hW_) hr_).mono fun e_ W2_ h_ => ⟨h_.1, h_.2⟩))); rintro e w21 ⟨rfl, hb⟩; refine ⟨_, rfl, ?_⟩; have n0_ := xB BK194 hb; have n1_ := xH HB hb; clear BK194 HB; have BK194 := n0_; have HB := n1_; clear n0_ n1_; (try clear hb); (try clear hb2); (try clear hk); (try clear hi)))
  go_ret
  exact ⟨by first | rfl | (simp [errW_none, errW_some] <;> rfl) | (simp [*, errW_none, errW_some] <;> rfl), uH HB.out⟩

end Go.Proofs.Ytokkabgkjhpecaa.Pr
/- Printed by a program of this session out of the translation: what these functions of the program compute, under the conditions that each theorem names. -/
namespace Go.Proofs.Ytokkabgkjhpecaa.Pr
open Go.RowKit Go.Proofs.YtokkabgkjhpecaaW.PrintWords Go.Proofs.YtokkabgkjhpecaaW.PrintLast Go.Proofs.YtokkabgkjhpecaaW.PrintMore
attribute [local go_sem] max2_int min2_int max_two min_two max_three min_three max_four min_four   -- for this text's walks alone
set_option linter.unusedVariables false
set_option linter.unusedSimpArgs false

/-! ### impl_momentsCode: function 93 -/
def impl_momentsCode.f (k : Nat) (a0_0 : Int) (l0_1 : List Int) (a1 : Bool) (l2 : List (List Int)) : Option (Int) := (impl_AreMoments.f k a0_0 l0_1).bind fun t910 => (if t910 = true then ((impl_polyCode.f k a0_0 a1 l2).bind fun t911 => (some t911)) else (some 1))
theorem impl_momentsCode.mono : ∀ a0 a1 a2 a3 k, LeO (impl_momentsCode.f k a0 a1 a2 a3) (impl_momentsCode.f (k + 1) a0 a1 a2 a3) := by
 intro a0 a1 a2 a3 k
 unfold impl_momentsCode.f
 repeat' first
   | (with_reducible exact impl_AreMoments.mono _ _ _)
   | (with_reducible exact impl_polyCode.mono _ _ _ _)
   | (with_reducible exact LeO.refl _)
   | (with_reducible exact LeO.none _)
   | (with_reducible refine LeO.ite ?_ ?_)
   | (with_reducible refine LeO.bind ?_ (fun _ => ?_))
   | exact impl_AreMoments.mono _ _ _
   | exact impl_polyCode.mono _ _ _ _
   | exact LeO.none _
   | refine LeO.ite ?_ ?_
   | refine LeO.bind ?_ (fun _ => ?_)
set_option maxHeartbeats 8000000 in
set_option maxRecDepth 100000 in
theorem impl_momentsCode.calls (k : Nat) (a0_0 : Int) (A0_1 : Option Addr) (c0_1 : Nat) (l0_1 : List Int) (F1 : Value) (a1 : Bool) (A2 : Option Addr) (c2 : Nat) (l2 : List (List Int)) (r : Int) (w : World) (hr0_1 : Kd.C (Kd.int .i64) w A0_1 l0_1.length l0_1) (hc0_1 : l0_1.length ≤ c0_1) (hF1 : FnB Try.prog w F1 a1) (hr2 : Kd.C (Kd.slice 2 (Kd.int .i64)) w A2 l2.length l2) (hc2 : l2.length ≤ c2) (h : impl_momentsCode.f k a0_0 l0_1 a1 l2 = some r) :
  Calls Try.prog 93 #[.agg #[.int .i64 a0_0, .slice A0_1 l0_1.length c0_1], F1, .slice A2 l2.length c2] w fun e w' => e = .returned (.int .i64 r) ∧ Below w.heap.size w w' := by
 have hu31 := Try.underlying31
 have HR0_1 := zA hr0_1
 have HC0_1 := zA hc0_1
 clear hr0_1 hc0_1
 obtain ⟨G1, fi1, ca1, rfl, hen1, hF1⟩ := hF1
 have hen1 : ∀ (args_ : Array Value) (w_ : World), (callFunc G1 args_).run Try.prog w_ = .ok (.enter G1 args_) w_ := hen1
 have HF1 := zA hF1
 clear hF1
 have HR2 := zA hr2
 have HC2 := zA hc2
 clear hr2 hc2
 have HB := zA (Below.refl w.heap.size w)
 have H : ((impl_AreMoments.f k a0_0 l0_1).bind fun t910 => (if t910 = true then ((impl_polyCode.f k a0_0 a1 l2).bind fun t911 => (some t911)) else (some 1))) = some r := h
 clear h
 replace H := Option.bind_eq_some_iff.mp H
 obtain ⟨t910, A40, H⟩ := H
 replace H : (if t910 = true then ((impl_polyCode.f k a0_0 a1 l2).bind fun t911 => (some t911)) else (some 1)) = some r := H
 have A4 := zA A40
 clear A40
 by_cases c5 : t910 = true
 ·subst c5
  have H1 : ((impl_polyCode.f k a0_0 a1 l2).bind fun t911 => (some t911)) = some r := by rw [if_pos rfl] at H; exact H
  clear H
  have H := H1
  clear H1
  replace H := Option.bind_eq_some_iff.mp H
  obtain ⟨t911, A60, H⟩ := H
  replace H : (some t911) = some r := H
  have A6 := zA A60
  clear A60
  obtain rfl := Option.some.inj H
  go_enter Try.func93, Try.ntmps93
  go_wp2_with (first | ((with_reducible refine gate_dst (N := 3) rfl ?_); refine box_event ?hg (N := 3) ?hd (cs := #[.int .i64 a0_0, .slice A0_1 l0_1.length c0_1]) (t := 31) ?hr ?_; (case hd => rfl); (case hg => rfl); (case hr => first | (go_simp; done) | (go_simp; rfl)); intro gb909 hg w7 hbox hb; have n0_ := xH HB hb; have n1_ := zA (hbox); have n2_ := zA ((by rw [hg]; exact (below_size (uH HB.out)) : w.heap.size ≤ gb909)); have n3_ := zA ((by rw [hg]; exact (below_size (uH HB.out)) : w.heap.size ≤ gb909)); clear HB; have HB := n0_; have BK909 := n1_; have GW909 := n2_; have GE909 := n3_; have := geI GE909; clear n0_ n1_ n2_ n3_ hb hbox hg; have hcz8_0 : w7.cell? ⟨gb909, 0, none⟩ = some (.int .i64 a0_0) := (blk_cell BK909.out 0).trans rfl; have hcz8_1 : w7.cell? ⟨gb909, 1, none⟩ = some (.slice A0_1 l0_1.length c0_1) := (blk_cell BK909.out 1).trans rfl; have hfz8_0 := blk_frozen BK909.out 0; have hfz8_1 := blk_frozen BK909.out 1) | ((with_reducible refine gate_callee (f := 130) rfl ?_); refine goesL_ (some 8) rfl rfl Try.func130 (by kernel_rfl) rfl #[.agg #[.int .i64 a0_0, .slice A0_1 l0_1.length c0_1]] rfl (by (try simp only [la, lb, lc]); first | done | rfl | (simp only [ld, le]; rfl)) ?_; (with_reducible refine (impl_AreMoments.calls k a0_0 _ _ l0_1 true _ ?side1 ?side2 A4.out).mono ?_); (case side1 => exact uC ((Kd.C_below HR0_1.out HB.out))); (case side2 => exact HC0_1.out); rintro e w9 ⟨rfl, hb⟩; refine ⟨_, rfl, ?_⟩; have n0_ := xB BK909 hb; have n1_ := xH HB hb; clear BK909 HB; have BK909 := n0_; have HB := n1_; clear n0_ n1_; (try clear hb); (try clear hb2); (try clear hk); (try clear hi); have hcz10_0 : w9.cell? ⟨gb909, 0, none⟩ = some (.int .i64 a0_0) := (blk_cell BK909.out 0).trans rfl; have hcz10_1 : w9.cell? ⟨gb909, 1, none⟩ = some (.slice A0_1 l0_1.length c0_1) := (blk_cell BK909.out 1).trans rfl; have hfz10_0 := blk_frozen BK909.out 0; have hfz10_1 := blk_frozen BK909.out 1) | ((with_reducible refine gate_callee (f := 132) rfl ?_); refine goesL_ (some 14) rfl rfl Try.func132 (by kernel_rfl) rfl #[.int .i64 a0_0, (.func (.func G1) fi1 ca1), .slice A2 l2.length c2] rfl (by (try simp only [la, lb, lc]); first | done | rfl | (simp only [ld, le]; rfl)) ?_; (with_reducible refine (impl_polyCode.calls k a0_0 _ a1 _ _ l2 t911 _ ?side1 ?side2 ?side3 A6.out).mono ?_); (case side1 => exact FnB.later (uH HB.out) (show FnB Try.prog w (.func (.func G1) fi1 ca1) a1 from ⟨_, _, _, rfl, hen1, HF1.out⟩)); (case side2 => exact uC ((Kd.C_below HR2.out HB.out))); (case side3 => exact HC2.out); rintro e w11 ⟨rfl, hb⟩; refine ⟨_, rfl, ?_⟩; have n0_ := xB BK909 hb; have n1_ := xH HB hb; clear BK909 HB; have BK909 := n0_; have HB := n1_; clear n0_ n1_; (try clear hb); (try clear hb2); (try clear hk); (try clear hi)))
  go_ret
  exact ⟨by first | rfl | (simp [errW_none, errW_some] <;> rfl) | (simp [*, errW_none, errW_some] <;> rfl), uH HB.out⟩
 ·replace c5 := Bool.eq_false_iff.mpr c5
  subst c5
  have H1 : (some 1) = some r := by rw [if_neg (show ¬ (false = true) by decide)] at H; exact H
  clear H
  have H := H1
  clear H1
  obtain rfl := Option.some.inj H
  go_enter Try.func93, Try.ntmps93
  go_wp2_with (first | ((with_reducible refine gate_dst (N := 3) rfl ?_); refine box_event ?hg (N := 3) ?hd (cs := #[.int .i64 a0_0, .slice A0_1 l0_1.length c0_1]) (t := 31) ?hr ?_; (case hd => rfl); (case hg => rfl); (case hr => first | (go_simp; done) | (go_simp; rfl)); intro gb909 hg w12 hbox hb; have n0_ := xH HB hb; have n1_ := zA (hbox); have n2_ := zA ((by rw [hg]; exact (below_size (uH HB.out)) : w.heap.size ≤ gb909)); have n3_ := zA ((by rw [hg]; exact (below_size (uH HB.out)) : w.heap.size ≤ gb909)); clear HB; have HB := n0_; have BK909 := n1_; have GW909 := n2_; have GE909 := n3_; have := geI GE909; clear n0_ n1_ n2_ n3_ hb hbox hg; have hcz13_0 : w12.cell? ⟨gb909, 0, none⟩ = some (.int .i64 a0_0) := (blk_cell BK909.out 0).trans rfl; have hcz13_1 : w12.cell? ⟨gb909, 1, none⟩ = some (.slice A0_1 l0_1.length c0_1) := (blk_cell BK909.out 1).trans rfl; have hfz13_0 := blk_frozen BK909.out 0; have hfz13_1 := blk_frozen BK909.out 1) | ((with_reducible refine gate_callee (f := 130) rfl ?_); refine goesL_ (some 8) rfl rfl Try.func130 (by kernel_rfl) rfl #[.agg #[.int .i64 a0_0, .slice A0_1 l0_1.length c0_1]] rfl (by (try simp only [la, lb, lc]); first | done | rfl | (simp only [ld, le]; rfl)) ?_; (with_reducible refine (impl_AreMoments.calls k a0_0 _ _ l0_1 false _ ?side1 ?side2 A4.out).mono ?_); (case side1 => exact uC ((Kd.C_below HR0_1.out HB.out))); (case side2 => exact HC0_1.out); rintro e w14 ⟨rfl, hb⟩; refine ⟨_, rfl, ?_⟩; have n0_ := xB BK909 hb; have n1_ := xH HB hb; clear BK909 HB; have BK909 := n0_; have HB := n1_; clear n0_ n1_; (try clear hb); (try clear hb2); (try clear hk); (try clear hi)))
  go_ret
  exact ⟨by first | rfl | (simp [errW_none, errW_some] <;> rfl) | (simp [*, errW_none, errW_some] <;> rfl), uH HB.out⟩

end Go.Proofs.Ytokkabgkjhpecaa.Pr
