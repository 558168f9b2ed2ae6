/- Texts of this session in one: what functions of the program compute, and plain facts of it, under the conditions that each theorem names. -/
import Derived.Test.YtokkabgkjhpecaaKC01
import Derived.Test.YtokkabgkjhpecaaKC02
import Derived.Test.YtokkabgkjhpecaaKC03
namespace Go.Proofs.Ytokkabgkjhpecaa.Pr
open Go.RowKit Go.Proofs.YtokkabgkjhpecaaW.PrintWords Go.Proofs.YtokkabgkjhpecaaW.PrintLast Go.Proofs.YtokkabgkjhpecaaW.PrintMore
attribute [local go_sem] max2_int min2_int max_two min_two max_three min_three max_four min_four   -- for this text's walks alone
set_option linter.unusedVariables false
set_option linter.unusedSimpArgs false
/-! ### impl_AreMoments: function 130 -/
def impl_AreMoments.f (k : Nat) (a0_0 : Int) (l0_1 : List Int) : Option (Bool) := (impl_IsPrime.f k a0_0).bind fun t168 => (if t168 = true then ((impl_length_int64.f l0_1).bind fun t169 => ((impl_within.f t169 1 24).bind fun t170 => (if t170 = true then ((impl_Moments_field.f a0_0 l0_1).bind fun t171 => ((impl_areAll_int64.f l0_1 (fun z_ => impl_field_has.f t171 z_)).bind fun t172 => (some t172))) else (some false)))) else (some false))
theorem impl_AreMoments.mono : ∀ a0 a1 k, LeO (impl_AreMoments.f k a0 a1) (impl_AreMoments.f (k + 1) a0 a1) := by
 intro a0 a1 k
 unfold impl_AreMoments.f
 repeat' first
   | (with_reducible exact impl_IsPrime.mono _ _)
   | (with_reducible exact LeO.refl _)
   | (with_reducible exact LeO.none _)
   | (with_reducible refine LeO.ite ?_ ?_)
   | (with_reducible refine LeO.bind ?_ (fun _ => ?_))
   | exact impl_IsPrime.mono _ _
   | exact LeO.none _
   | refine LeO.ite ?_ ?_
   | refine LeO.bind ?_ (fun _ => ?_)
def impl_AreMoments.T1 : Bool × List (List Nat × List Nat) := (true, [([], []), ([0], [0]), ([1], [1]), ([2, 2], [2]), ([3], [3]), ([4, 3], [3, 4]), ([5, 3, 3], [3, 5]), ([6, 6, 3], [3, 6]), ([3, 7], [3, 7]), ([8, 7], [8]), ([9], [9]), ([10, 9], [9, 10]), ([9], [9]), ([12, 9, 9], [9, 12]), ([13, 9], [9, 13]), ([11, 14, 13, 9], [9, 11, 14]), ([9, 15], [9, 15]), ([16, 15, 0, 1, 2, 3, 4, 5, 6, 7, 8, 9, 10, 11, 12, 13, 14, 15, 16], [16])])
def impl_AreMoments.B1 : List Nat := [0, 1, 3, 7, 15, 31, 63, 127, 255, 511, 1023, 2047, 1023, 5119, 13311, 32767, 65535, 131071]
theorem impl_AreMoments.tab1 : rtab .any (opsOf Try.f130 1) = impl_AreMoments.T1 := by kernel_rfl
theorem impl_AreMoments.bits1 : waitsOk impl_AreMoments.T1.2 impl_AreMoments.B1 = true := by kernel_rfl
set_option maxHeartbeats 8000000 in
set_option maxRecDepth 100000 in
theorem impl_AreMoments.calls (k : Nat) (a0_0 : Int) (A0_1 : Option Addr) (c0_1 : Nat) (l0_1 : List Int) (r : Bool) (w : World) (hr0_1 : Kd.C (Kd.int .i64) w A0_1 l0_1.length l0_1) (hc0_1 : l0_1.length ≤ c0_1) (h : impl_AreMoments.f k a0_0 l0_1 = some r) :
  Calls Try.prog 130 #[.agg #[.int .i64 a0_0, .slice A0_1 l0_1.length c0_1]] w fun e w' => e = .returned (.bool r) ∧ Below w.heap.size w w' := by
 have hu31 := Try.underlying31
 have hmf : ∀ (fn_ : Fn) (first_ cap_ : Array Value) (w_ : World), (Instr.makeFunc fn_ first_ cap_).run Try.prog w_ = .ok (.func fn_ first_ cap_) w_ := fun _ _ _ _ => rfl
 have HR0_1 := zA hr0_1
 have HC0_1 := zA hc0_1
 clear hr0_1 hc0_1
 have HB := zA (Below.refl w.heap.size w)
 have H : ((impl_IsPrime.f k a0_0).bind fun t168 => (if t168 = true then ((impl_length_int64.f l0_1).bind fun t169 => ((impl_within.f t169 1 24).bind fun t170 => (if t170 = true then ((impl_Moments_field.f a0_0 l0_1).bind fun t171 => ((impl_areAll_int64.f l0_1 (fun z_ => impl_field_has.f t171 z_)).bind fun t172 => (some t172))) else (some false)))) else (some false))) = some r := h
 clear h
 replace H := Option.bind_eq_some_iff.mp H
 obtain ⟨t168, A20, H⟩ := H
 replace H : (if t168 = true then ((impl_length_int64.f l0_1).bind fun t169 => ((impl_within.f t169 1 24).bind fun t170 => (if t170 = true then ((impl_Moments_field.f a0_0 l0_1).bind fun t171 => ((impl_areAll_int64.f l0_1 (fun z_ => impl_field_has.f t171 z_)).bind fun t172 => (some t172))) else (some false)))) else (some false)) = some r := H
 have A2 := zA A20
 clear A20
 by_cases c3 : t168 = true
 ·subst c3
  have H1 : ((impl_length_int64.f l0_1).bind fun t169 => ((impl_within.f t169 1 24).bind fun t170 => (if t170 = true then ((impl_Moments_field.f a0_0 l0_1).bind fun t171 => ((impl_areAll_int64.f l0_1 (fun z_ => impl_field_has.f t171 z_)).bind fun t172 => (some t172))) else (some false)))) = some r := by rw [if_pos rfl] at H; exact H
  clear H
  have H := H1
  clear H1
  replace H := Option.bind_eq_some_iff.mp H
  obtain ⟨t169, A40, H⟩ := H
  replace H : ((impl_within.f t169 1 24).bind fun t170 => (if t170 = true then ((impl_Moments_field.f a0_0 l0_1).bind fun t171 => ((impl_areAll_int64.f l0_1 (fun z_ => impl_field_has.f t171 z_)).bind fun t172 => (some t172))) else (some false))) = some r := H
  have A4 := zA A40
  clear A40
  replace H := Option.bind_eq_some_iff.mp H
  obtain ⟨t170, A50, H⟩ := H
  replace H : (if t170 = true then ((impl_Moments_field.f a0_0 l0_1).bind fun t171 => ((impl_areAll_int64.f l0_1 (fun z_ => impl_field_has.f t171 z_)).bind fun t172 => (some t172))) else (some false)) = some r := H
  have A5 := zA A50
  clear A50
  by_cases c6 : t170 = true
  ·subst c6
   have H1 : ((impl_Moments_field.f a0_0 l0_1).bind fun t171 => ((impl_areAll_int64.f l0_1 (fun z_ => impl_field_has.f t171 z_)).bind fun t172 => (some t172))) = some r := by rw [if_pos rfl] at H; exact H
   clear H
   have H := H1
   clear H1
   replace H := Option.bind_eq_some_iff.mp H
   obtain ⟨t171, A70, H⟩ := H
   replace H : ((impl_areAll_int64.f l0_1 (fun z_ => impl_field_has.f t171 z_)).bind fun t172 => (some t172)) = some r := H
   have A7 := zA A70
   clear A70
   replace H := Option.bind_eq_some_iff.mp H
   obtain ⟨t172, A80, H⟩ := H
   replace H : (some t172) = some r := H
   have A8 := zA A80
   clear A80
   obtain rfl := Option.some.inj H
   go_enter Try.func130, Try.ntmps130
   try go_wp2_with (first | ((with_reducible refine gate_dst (N := 1) rfl ?_); refine bx 1 #[.int .i64 a0_0, .slice A0_1 l0_1.length c0_1] 31 ?_; intro gb167 hg w9 hbox hb; have BK167 := zA (hbox); have GW167 := gq HB hg; have GE167 := gq HB hg; replace HB := xH HB hb; have := geI GE167; clear hb hbox hg))
   replace BK167 := zA (blk_drew BK167.out)
   replace HB := zA (below_drew1 HB.out)
   refine start_ (n := 18) (S := fun w' => w'.cell? ⟨gb167, 0, none⟩ = some (.int .i64 a0_0) ∧ w'.cell? ⟨gb167, 1, none⟩ = some (.slice A0_1 l0_1.length c0_1)) (ds := []) #[false, false, false, false, false, false, false, false, false, false, false, false, false, false, false, false, false, false] (by kernel_rfl) rfl rfl ⟨bcu BK167 0, bcu BK167 1⟩ (fun hHeld => ?_); refine with_tabW impl_AreMoments.tab1 impl_AreMoments.bits1 (fun HT_ HW_ => ?_)
   generalize w9.drew = w10 at BK167 HB hHeld ⊢
   refine pu_ 0 3 (bl 18 1) HT_ ?_
   refine ta_ 1 4 (bl 18 3) HT_ HW_ hHeld ?_
   refine on_ 2 (some 5) (bl 18 7) HT_ (fun K hK => ?_)
   refine gS Try.func149 #[.int .i64 a0_0] ?_
   with_reducible refine (impl_IsPrime.calls k a0_0 true _ A2.out).mono ?_
   rintro e w' ⟨rfl, ⟨nd, rfl⟩⟩
   refine ⟨_, rfl, ?_⟩
   refine hK.out _ _ ⟨bcu BK167 0, bcu BK167 1⟩ (fun hHeld => ?_)
   clear hK K
   refine no_ 5 ?_
   refine pu_ 3 6 (bl 18 15) HT_ ?_
   refine pu_ 4 7 (bl 18 31) HT_ ?_
   refine ta_ 5 8 (bl 18 63) HT_ HW_ hHeld ?_
   refine on_ 6 (some 9) (bl 18 127) HT_ (fun K hK => ?_)
   refine gS Try.func121 #[.slice A0_1 l0_1.length c0_1] ?_
   with_reducible refine (impl_length_int64.calls _ _ l0_1 t169 _ ?side1 ?side2 A4.out).mono ?_
   (case side1 => repeat (first | exact (Kd.C_below HR0_1.out (uH HB.out)) | (with_reducible refine Kd.C_alloc ?_ _) | (with_reducible refine Kd.C_drewN ?_ _) | (with_reducible refine Kd.C_drew ?_)))
   (case side2 => exact HC0_1.out)
   rintro e w' ⟨rfl, ⟨nd, rfl⟩⟩
   refine ⟨_, rfl, ?_⟩
   refine hK.out _ _ ⟨bcu BK167 0, bcu BK167 1⟩ (fun hHeld => ?_)
   clear hK K
   refine no_ 9 ?_
   refine on_ 7 (some 10) (bl 18 255) HT_ (fun K hK => ?_)
   refine gS Try.func74 #[.int .i64 t169, .int .i64 1, .int .i64 24] ?_
   with_reducible refine (impl_within.calls t169 1 24 true _ A5.out).mono ?_
   rintro e w' ⟨rfl, ⟨nd, rfl⟩⟩
   refine ⟨_, rfl, ?_⟩
   refine hK.out _ _ ⟨bcu BK167 0, bcu BK167 1⟩ (fun hHeld => ?_)
   clear hK K
   refine no_ 10 ?_
   refine pu_ 8 11 (bl 18 511) HT_ ?_
   refine pu_ 9 12 (bl 18 1023) HT_ ?_
   refine pu_ 10 13 (bl 18 2047) HT_ ?_
   refine ta_ 11 14 (bl 18 4095) HT_ HW_ hHeld ?_
   refine ta_ 12 15 (bl 18 8191) HT_ HW_ hHeld ?_
   refine on_ 13 (some 16) (bl 18 16383) HT_ (fun K hK => ?_)
   refine gS Try.func100 #[.agg #[.int .i64 a0_0, .slice A0_1 l0_1.length c0_1]] ?_
   with_reducible refine (impl_Moments_field.calls a0_0 _ _ l0_1 t171 _ ?side1 ?side2 A7.out).mono ?_
   (case side1 => repeat (first | exact (Kd.C_below HR0_1.out (uH HB.out)) | (with_reducible refine Kd.C_alloc ?_ _) | (with_reducible refine Kd.C_drewN ?_ _) | (with_reducible refine Kd.C_drew ?_)))
   (case side2 => exact HC0_1.out)
   rintro e w11 ⟨rfl, hb⟩
   refine ⟨_, rfl, ?_⟩
   replace BK167 := xB BK167 hb
   replace HB := xH HB hb
   (try clear hb); (try clear hb2); (try clear hk); (try clear hi)
   refine hK.out _ _ ⟨bcu BK167 0, bcu BK167 1⟩ (fun hHeld => ?_)
   clear hK K
   refine no_ 16 ?_
   refine pu_ 14 17 (bl 18 32767) HT_ ?_
   refine on_ 15 (some 18) (bl 18 65535) HT_ (fun K hK => ?_)
   refine gS Try.func146 #[.slice A0_1 l0_1.length c0_1, (.func (.func 77) #[.int .i64 t171] #[])] ?_
   with_reducible refine (impl_areAll_int64.calls _ _ l0_1 _ (fun z_ => impl_field_has.f t171 z_) t172 _ ?side1 ?side2 ?side3 A8.out).mono ?_
   (case side1 => exact uC ((Kd.C_below HR0_1.out HB.out)))
   (case side2 => exact HC0_1.out)
   (case side3 => exact FnI.of Try.func77 (by kernel_rfl) rfl (fun z_ r_ hr_ W_ hW_ => calls_of_args (args' := #[.int .i64 t171, .int .i64 z_]) (by simp) ((impl_field_has.calls t171 z_ r_ W_  hr_).mono fun e_ W2_ h_ => ⟨h_.1, h_.2.below⟩)))
   rintro e w12 ⟨rfl, hb⟩
   refine ⟨_, rfl, ?_⟩
   replace BK167 := xB BK167 hb
   replace HB := xH HB hb
   (try clear hb); (try clear hb2); (try clear hk); (try clear hi)
   refine hK.out _ _ ⟨bcu BK167 0, bcu BK167 1⟩ (fun hHeld => ?_)
   clear hK K
   refine no_ 18 ?_
   refine pu_ 16 19 (bl 18 131071) HT_ ?_
   refine pu_ 17 2 (bl 18 262143) HT_ ?_
   refine done_ (done_of HT_.out (by kernel_rfl)) ?_
   try go_wp2
   go_ret
   exact ⟨by first | rfl | (simp [errW_none, errW_some] <;> rfl) | (simp [*, errW_none, errW_some] <;> rfl), uH HB.out⟩
  ·replace c6 := Bool.eq_false_iff.mpr c6
   subst c6
   have H1 : (some false) = some r := by rw [if_neg (show ¬ (false = true) by decide)] at H; exact H
   clear H
   have H := H1
   clear H1
   obtain rfl := Option.some.inj H
   go_enter Try.func130, Try.ntmps130
   try go_wp2_with (first | ((with_reducible refine gate_dst (N := 1) rfl ?_); refine bx 1 #[.int .i64 a0_0, .slice A0_1 l0_1.length c0_1] 31 ?_; intro gb167 hg w13 hbox hb; have BK167 := zA (hbox); have GW167 := gq HB hg; have GE167 := gq HB hg; replace HB := xH HB hb; have := geI GE167; clear hb hbox hg))
   replace BK167 := zA (blk_drew BK167.out)
   replace HB := zA (below_drew1 HB.out)
   refine start_ (n := 18) (S := fun w' => w'.cell? ⟨gb167, 0, none⟩ = some (.int .i64 a0_0) ∧ w'.cell? ⟨gb167, 1, none⟩ = some (.slice A0_1 l0_1.length c0_1)) (ds := []) #[false, false, false, false, false, false, false, false, false, false, false, false, false, false, false, false, false, false] (by kernel_rfl) rfl rfl ⟨bcu BK167 0, bcu BK167 1⟩ (fun hHeld => ?_); refine with_tabW impl_AreMoments.tab1 impl_AreMoments.bits1 (fun HT_ HW_ => ?_)
   generalize w13.drew = w14 at BK167 HB hHeld ⊢
   refine pu_ 0 3 (bl 18 1) HT_ ?_
   refine ta_ 1 4 (bl 18 3) HT_ HW_ hHeld ?_
   refine on_ 2 (some 5) (bl 18 7) HT_ (fun K hK => ?_)
   refine gS Try.func149 #[.int .i64 a0_0] ?_
   with_reducible refine (impl_IsPrime.calls k a0_0 true _ A2.out).mono ?_
   rintro e w' ⟨rfl, ⟨nd, rfl⟩⟩
   refine ⟨_, rfl, ?_⟩
   refine hK.out _ _ ⟨bcu BK167 0, bcu BK167 1⟩ (fun hHeld => ?_)
   clear hK K
   refine no_ 5 ?_
   refine pu_ 3 6 (bl 18 15) HT_ ?_
   refine pu_ 4 7 (bl 18 31) HT_ ?_
   refine ta_ 5 8 (bl 18 63) HT_ HW_ hHeld ?_
   refine on_ 6 (some 9) (bl 18 127) HT_ (fun K hK => ?_)
   refine gS Try.func121 #[.slice A0_1 l0_1.length c0_1] ?_
   with_reducible refine (impl_length_int64.calls _ _ l0_1 t169 _ ?side1 ?side2 A4.out).mono ?_
   (case side1 => repeat (first | exact (Kd.C_below HR0_1.out (uH HB.out)) | (with_reducible refine Kd.C_alloc ?_ _) | (with_reducible refine Kd.C_drewN ?_ _) | (with_reducible refine Kd.C_drew ?_)))
   (case side2 => exact HC0_1.out)
   rintro e w' ⟨rfl, ⟨nd, rfl⟩⟩
   refine ⟨_, rfl, ?_⟩
   refine hK.out _ _ ⟨bcu BK167 0, bcu BK167 1⟩ (fun hHeld => ?_)
   clear hK K
   refine no_ 9 ?_
   refine on_ 7 (some 10) (bl 18 255) HT_ (fun K hK => ?_)
   refine gS Try.func74 #[.int .i64 t169, .int .i64 1, .int .i64 24] ?_
   with_reducible refine (impl_within.calls t169 1 24 false _ A5.out).mono ?_
   rintro e w' ⟨rfl, ⟨nd, rfl⟩⟩
   refine ⟨_, rfl, ?_⟩
   refine hK.out _ _ ⟨bcu BK167 0, bcu BK167 1⟩ (fun hHeld => ?_)
   clear hK K
   refine no_ 10 ?_
   refine pu_ 8 11 (bl 18 511) HT_ ?_
   refine pu_ 9 12 (bl 18 1023) HT_ ?_
   refine un_ 10 13 (bl 18 2047) HT_ ?_
   refine un_ 11 14 (bl 18 4095) HT_ ?_
   refine un_ 12 15 (bl 18 8191) HT_ ?_
   refine un_ 13 16 (bl 18 16383) HT_ ?_
   refine un_ 14 17 (bl 18 32767) HT_ ?_
   refine un_ 15 18 (bl 18 65535) HT_ ?_
   refine pu_ 16 19 (bl 18 131071) HT_ ?_
   refine pu_ 17 2 (bl 18 262143) HT_ ?_
   refine done_ (done_of HT_.out (by kernel_rfl)) ?_
   try go_wp2
   go_ret
   exact ⟨by first | rfl | (simp [errW_none, errW_some] <;> rfl) | (simp [*, errW_none, errW_some] <;> rfl), uH HB.out⟩
 ·replace c3 := Bool.eq_false_iff.mpr c3
  subst c3
  have H1 : (some false) = some r := by rw [if_neg (show ¬ (false = true) by decide)] at H; exact H
  clear H
  have H := H1
  clear H1
  obtain rfl := Option.some.inj H
  go_enter Try.func130, Try.ntmps130
  try go_wp2_with (first | ((with_reducible refine gate_dst (N := 1) rfl ?_); refine bx 1 #[.int .i64 a0_0, .slice A0_1 l0_1.length c0_1] 31 ?_; intro gb167 hg w15 hbox hb; have BK167 := zA (hbox); have GW167 := gq HB hg; have GE167 := gq HB hg; replace HB := xH HB hb; have := geI GE167; clear hb hbox hg))
  replace BK167 := zA (blk_drew BK167.out)
  replace HB := zA (below_drew1 HB.out)
  refine start_ (n := 18) (S := fun w' => w'.cell? ⟨gb167, 0, none⟩ = some (.int .i64 a0_0) ∧ w'.cell? ⟨gb167, 1, none⟩ = some (.slice A0_1 l0_1.length c0_1)) (ds := []) #[false, false, false, false, false, false, false, false, false, false, false, false, false, false, false, false, false, false] (by kernel_rfl) rfl rfl ⟨bcu BK167 0, bcu BK167 1⟩ (fun hHeld => ?_); refine with_tabW impl_AreMoments.tab1 impl_AreMoments.bits1 (fun HT_ HW_ => ?_)
  generalize w15.drew = w16 at BK167 HB hHeld ⊢
  refine pu_ 0 3 (bl 18 1) HT_ ?_
  refine ta_ 1 4 (bl 18 3) HT_ HW_ hHeld ?_
  refine on_ 2 (some 5) (bl 18 7) HT_ (fun K hK => ?_)
  refine gS Try.func149 #[.int .i64 a0_0] ?_
  with_reducible refine (impl_IsPrime.calls k a0_0 false _ A2.out).mono ?_
  rintro e w' ⟨rfl, ⟨nd, rfl⟩⟩
  refine ⟨_, rfl, ?_⟩
  refine hK.out _ _ ⟨bcu BK167 0, bcu BK167 1⟩ (fun hHeld => ?_)
  clear hK K
  refine no_ 5 ?_
  refine pu_ 3 6 (bl 18 15) HT_ ?_
  refine un_ 4 7 (bl 18 31) HT_ ?_
  refine un_ 5 8 (bl 18 63) HT_ ?_
  refine un_ 6 9 (bl 18 127) HT_ ?_
  refine un_ 7 10 (bl 18 255) HT_ ?_
  refine pu_ 8 11 (bl 18 511) HT_ ?_
  refine pu_ 9 12 (bl 18 1023) HT_ ?_
  refine un_ 10 13 (bl 18 2047) HT_ ?_
  refine un_ 11 14 (bl 18 4095) HT_ ?_
  refine un_ 12 15 (bl 18 8191) HT_ ?_
  refine un_ 13 16 (bl 18 16383) HT_ ?_
  refine un_ 14 17 (bl 18 32767) HT_ ?_
  refine un_ 15 18 (bl 18 65535) HT_ ?_
  refine pu_ 16 19 (bl 18 131071) HT_ ?_
  refine pu_ 17 2 (bl 18 262143) HT_ ?_
  refine done_ (done_of HT_.out (by kernel_rfl)) ?_
  try go_wp2
  go_ret
  exact ⟨by first | rfl | (simp [errW_none, errW_some] <;> rfl) | (simp [*, errW_none, errW_some] <;> rfl), uH HB.out⟩
/-! ### impl_IsPoly: function 154 -/
def impl_IsPoly.f (a0 : Int) (l1 : List Int) : Option (Bool) := if (l1.length : Int) ≤ 25 then ((impl_areAll_int64.f l1 (fun z_ => impl_field_has.f a0 z_)).bind fun t191 => (if t191 = true then (if (l1.length : Int) = 0 then (some true) else (if 0 ≤ (wrap64 ((l1.length : Int) - 1)) then (if (wrap64 ((l1.length : Int) - 1)) < (l1.length : Int) then (some ((rd l1 (wrap64 ((l1.length : Int) - 1))) != 0)) else (none)) else (none))) else (some false))) else (some false)
set_option maxHeartbeats 8000000 in
set_option maxRecDepth 100000 in
theorem impl_IsPoly.calls (a0 : Int) (A1 : Option Addr) (c1 : Nat) (l1 : List Int) (r : Bool) (w : World) (hr1 : Kd.C (Kd.int .i64) w A1 l1.length l1) (hc1 : l1.length ≤ c1) (h : impl_IsPoly.f a0 l1 = some r) :
  Calls Try.prog 154 #[.int .i64 a0, .slice A1 l1.length c1] w fun e w' => e = .returned (.bool r) ∧ Below w.heap.size w w' := by
 have hmf : ∀ (fn_ : Fn) (first_ cap_ : Array Value) (w_ : World), (Instr.makeFunc fn_ first_ cap_).run Try.prog w_ = .ok (.func fn_ first_ cap_) w_ := fun _ _ _ _ => rfl
 have HR1 := zA hr1
 have HC1 := zA hc1
 clear hr1 hc1
 have HB := zA (Below.refl w.heap.size w)
 have H : (if (l1.length : Int) ≤ 25 then ((impl_areAll_int64.f l1 (fun z_ => impl_field_has.f a0 z_)).bind fun t191 => (if t191 = true then (if (l1.length : Int) = 0 then (some true) else (if 0 ≤ (wrap64 ((l1.length : Int) - 1)) then (if (wrap64 ((l1.length : Int) - 1)) < (l1.length : Int) then (some ((rd l1 (wrap64 ((l1.length : Int) - 1))) != 0)) else (none)) else (none))) else (some false))) else (some false)) = some r := h
 clear h
 by_cases c3 : (l1.length : Int) ≤ 25
 rotate_left
 ·rw [if_neg c3] at H
  have c3b0 : decide ((l1.length : Int) ≤ 25) = false := decide_eq_false c3
  have c3b1 : decide (l1.length ≤ 25) = false := decide_eq_false (by omega)
  clear c3
  obtain rfl := Option.some.inj H
  go_enter Try.func154, Try.ntmps154
  go_wp2
  go_ret
  exact ⟨by first | rfl | (simp [errW_none, errW_some] <;> rfl) | (simp [*, errW_none, errW_some] <;> rfl), uH HB.out⟩

 rw [if_pos c3] at H
 have c3b0 : decide ((l1.length : Int) ≤ 25) = true := decide_eq_true c3
 have c3b1 : decide (l1.length ≤ 25) = true := decide_eq_true (by omega)
 clear c3
 replace H := Option.bind_eq_some_iff.mp H
 obtain ⟨t191, A40, H⟩ := H
 replace H : (if t191 = true then (if (l1.length : Int) = 0 then (some true) else (if 0 ≤ (wrap64 ((l1.length : Int) - 1)) then (if (wrap64 ((l1.length : Int) - 1)) < (l1.length : Int) then (some ((rd l1 (wrap64 ((l1.length : Int) - 1))) != 0)) else (none)) else (none))) else (some false)) = some r := H
 have A4 := zA A40
 clear A40
 by_cases c5 : t191 = true
 ·subst c5
  have H1 : (if (l1.length : Int) = 0 then (some true) else (if 0 ≤ (wrap64 ((l1.length : Int) - 1)) then (if (wrap64 ((l1.length : Int) - 1)) < (l1.length : Int) then (some ((rd l1 (wrap64 ((l1.length : Int) - 1))) != 0)) else (none)) else (none))) = some r := by rw [if_pos rfl] at H; exact H
  clear H
  have H := H1
  clear H1
  by_cases c6 : (l1.length : Int) = 0
  rotate_left
  ·rw [if_neg c6] at H
   have c6b0 : ((l1.length : Int) == 0) = false := beq_eq_false_iff_ne.mpr c6
   have c6b1 : ((l1.length : Int) != 0) = true := bne_iff_ne.mpr c6
   have c6b2 : ¬ (l1 = []) := fun h_ => c6 (by rw [h_]; rfl)
   obtain ⟨ji8, hji8⟩ : ∃ j_ : Int, (wrap64 ((l1.length : Int) - 1)) = j_ := ⟨_, rfl⟩
   replace H : (if 0 ≤ (ji8) then (if (ji8) < (l1.length : Int) then (some ((rd l1 (ji8)) != 0)) else (none)) else (none)) = some r := by first | (rw [hji8] at H; exact H) | (simp only [hji8] at H ⊢; exact H)
   (try rw [hji8] at A4)
   have hji8w : (IntKind.i64.wrap ((l1.length : Int) - 1)) = ji8 := (i64_w _).trans hji8
   by_cases c9 : 0 ≤ (ji8)
   rotate_left
   ·rw [if_neg c9] at H
    exact absurd H (by simp)
   rw [if_pos c9] at H
   have c9b0 : decide (0 ≤ (ji8)) = true := decide_eq_true c9
   clear c9
   by_cases c10 : (ji8) < (l1.length : Int)
   rotate_left
   ·rw [if_neg c10] at H
    exact absurd H (by simp)
   rw [if_pos c10] at H
   have c10b0 : decide ((ji8) < (l1.length : Int)) = true := decide_eq_true c10
   clear c10
   obtain rfl := Option.some.inj H
   go_enter Try.func154, Try.ntmps154
   go_wp2_with (first | (go_at_call 146; (with_reducible refine (impl_areAll_int64.calls _ _ l1 _ (fun z_ => impl_field_has.f a0 z_) true _ ?side1 ?side2 ?side3 A4.out).mono ?_); (case side1 => exact uC HR1.out); (case side2 => exact HC1.out); (case side3 => exact FnI.of Try.func77 (by kernel_rfl) rfl (fun z_ r_ hr_ W_ hW_ => calls_of_args (args' := #[.int .i64 a0, .int .i64 z_]) (by simp) ((impl_field_has.calls a0 z_ r_ W_  hr_).mono fun e_ W2_ h_ => ⟨h_.1, h_.2.below⟩))); rintro e w11 ⟨rfl, hb⟩; replace HB := xH HB hb; (try clear hb); (try clear hb2); (try clear hk); (try clear hi); have p192 : 0 ≤ ((ji8) : Int) := of_decide_eq_true (by first | (with_reducible assumption) | assumption); have q192 : (ji8) < (l1.length : Int) := of_decide_eq_true (by first | (with_reducible assumption) | assumption); obtain ⟨ad192, e192, hx192_0⟩ := Kd.at_int HR1.out (ji8) p192 q192; cases e192; replace hx192_0 := hc HB hx192_0; replace p192 := eq_true p192; replace q192 := eq_true q192))
   go_ret
   exact ⟨by first | rfl | (simp [errW_none, errW_some] <;> rfl) | (simp only [← hji8]; first | rfl | (simp [errW_none, errW_some] <;> rfl)) | (simp [*, errW_none, errW_some] <;> rfl), uH HB.out⟩
  rw [if_pos c6] at H
  have c6b0 : ((l1.length : Int) == 0) = true := beq_iff_eq.mpr c6
  have c6b1 : ((l1.length : Int) != 0) = false := bne_eq_false_iff_eq.mpr c6
  clear c6
  obtain rfl := Option.some.inj H
  go_enter Try.func154, Try.ntmps154
  go_wp2_with (first | (go_at_call 146; (with_reducible refine (impl_areAll_int64.calls _ _ l1 _ (fun z_ => impl_field_has.f a0 z_) true _ ?side1 ?side2 ?side3 A4.out).mono ?_); (case side1 => exact uC HR1.out); (case side2 => exact HC1.out); (case side3 => exact FnI.of Try.func77 (by kernel_rfl) rfl (fun z_ r_ hr_ W_ hW_ => calls_of_args (args' := #[.int .i64 a0, .int .i64 z_]) (by simp) ((impl_field_has.calls a0 z_ r_ W_  hr_).mono fun e_ W2_ h_ => ⟨h_.1, h_.2.below⟩))); rintro e w7 ⟨rfl, hb⟩; replace HB := xH HB hb; (try clear hb); (try clear hb2); (try clear hk); (try clear hi)))
  go_ret
  exact ⟨by first | rfl | (simp [errW_none, errW_some] <;> rfl) | (simp [*, errW_none, errW_some] <;> rfl), uH HB.out⟩
 ·replace c5 := Bool.eq_false_iff.mpr c5
  subst c5
  have H1 : (some false) = some r := by rw [if_neg (show ¬ (false = true) by decide)] at H; exact H
  clear H
  have H := H1
  clear H1
  obtain rfl := Option.some.inj H
  go_enter Try.func154, Try.ntmps154
  go_wp2_with (first | (go_at_call 146; (with_reducible refine (impl_areAll_int64.calls _ _ l1 _ (fun z_ => impl_field_has.f a0 z_) false _ ?side1 ?side2 ?side3 A4.out).mono ?_); (case side1 => exact uC HR1.out); (case side2 => exact HC1.out); (case side3 => exact FnI.of Try.func77 (by kernel_rfl) rfl (fun z_ r_ hr_ W_ hW_ => calls_of_args (args' := #[.int .i64 a0, .int .i64 z_]) (by simp) ((impl_field_has.calls a0 z_ r_ W_  hr_).mono fun e_ W2_ h_ => ⟨h_.1, h_.2.below⟩))); rintro e w12 ⟨rfl, hb⟩; replace HB := xH HB hb; (try clear hb); (try clear hb2); (try clear hk); (try clear hi)))
  go_ret
  exact ⟨by first | rfl | (simp [errW_none, errW_some] <;> rfl) | (simp [*, errW_none, errW_some] <;> rfl), uH HB.out⟩
/-! ### impl_polyCode_1: function 153 -/
def impl_polyCode_1.f (l0 : List Int) (a1_0 : Int) : Option (Bool) := (impl_IsPoly.f a1_0 l0).bind fun t193 => (some t193)
set_option maxHeartbeats 8000000 in
set_option maxRecDepth 100000 in
theorem impl_polyCode_1.calls (A0 : Option Addr) (c0 : Nat) (l0 : List Int) (gc1 : Nat) (a1_0 : Int) (r : Bool) (w : World) (hr0 : Kd.C (Kd.int .i64) w A0 l0.length l0) (hc0 : l0.length ≤ c0) (hb1 : w.heap[gc1]? = some (.cells #[.int .i64 a1_0] 2 (0, 0))) (h : impl_polyCode_1.f l0 a1_0 = some r) :
  Calls Try.prog 153 #[.slice A0 l0.length c0, .pointer (some ⟨gc1, 0, none⟩)] w fun e w' => e = .returned (.bool r) ∧ Below w.heap.size w w' := by
 have HR0 := zA hr0
 have HC0 := zA hc0
 clear hr0 hc0
 have BK1 := zA hb1
 clear hb1
 have HB := zA (Below.refl w.heap.size w)
 have H : ((impl_IsPoly.f a1_0 l0).bind fun t193 => (some t193)) = some r := h
 clear h
 replace H := Option.bind_eq_some_iff.mp H
 obtain ⟨t193, A30, H⟩ := H
 replace H : (some t193) = some r := H
 have A3 := zA A30
 clear A30
 obtain rfl := Option.some.inj H
 have hcz4_0 := bc BK1 0
 have hfz4_0 := bf BK1 0
 go_enter Try.func153, Try.ntmps153
 go_wp2_with (first | ((with_reducible refine gate_callee (f := 154) rfl ?_); refine gL (some 6) Try.func154 #[.int .i64 a1_0, .slice A0 l0.length c0] ?_; (with_reducible refine (impl_IsPoly.calls a1_0 _ _ l0 t193 _ ?side1 ?side2 A3.out).mono ?_); (case side1 => exact uC HR0.out); (case side2 => exact HC0.out); rintro e w5 ⟨rfl, hb⟩; refine ⟨_, rfl, ?_⟩; replace BK1 := xB BK1 hb; replace HB := xH HB hb; (try clear hb); (try clear hb2); (try clear hk); (try clear hi)))
 go_ret
 exact ⟨by first | rfl | (simp [errW_none, errW_some] <;> rfl) | (simp [*, errW_none, errW_some] <;> rfl), uH HB.out⟩
/- Lists of lists all of whose elements answer yes: what areAll computes. -/
def impl_areAll_rows.f (l : List (List Int)) (p : List Int → Option Bool) : Option Bool := if l.length < 4611686018427387904 then allO p l else none
theorem indexFunc_rows (p : List Int → Option Bool) (l : List (List Int)) (hl : l.length < 4611686018427387904) (d : Nat) : ∀ (k i : Nat) (r : Bool), i + d = l.length → d < k → allO p (l.drop i) = some r →
    ∃ j, slices_IndexFunc_rows.l0 k l (fun z_ => impl_areAll_rows_1.f z_ p) (l.length : Int) (i : Int) = some j ∧ decide (j ≥ 0) = !r := by
  induction d with
  | zero =>
    intro k i r hi hk h
    obtain ⟨k, rfl⟩ : ∃ m, k = m + 1 := ⟨k - 1, by omega⟩
    simp only [slices_IndexFunc_rows.l0]
    rw [if_neg (by omega)]
    rw [List.drop_eq_nil_of_le (by omega)] at h
    simp only [allO, Option.some.injEq] at h
    subst h
    exact ⟨-1, rfl, rfl⟩
  | succ d ih =>
    intro k i r hi hk h
    obtain ⟨k, rfl⟩ : ∃ m, k = m + 1 := ⟨k - 1, by omega⟩
    simp only [slices_IndexFunc_rows.l0]
    rw [if_pos (by omega), if_pos (by omega), if_pos (by omega)]
    rw [drop_cons l [] i (by omega)] at h
    simp only [allO] at h
    have e : rd_L1 l (i : Int) = l.getD i [] := by simp [rd_L1]
    rw [e]
    obtain ⟨b, hb, h⟩ := Option.bind_eq_some_iff.mp h
    simp only [impl_areAll_rows_1.f, hb, Option.bind_some]
    cases b with
    | true =>
      rw [if_pos rfl] at h
      simp only [Bool.not_true, Bool.false_eq_true, if_false]
      rw [wrap_succ (n := l.length) (by omega) (by omega) hl]
      exact ih k (i + 1) r (by omega) (by omega) h
    | false =>
      simp only [Bool.false_eq_true, if_false, Option.some.injEq] at h
      subst h
      simp only [Bool.not_false, if_true]
      exact ⟨i, rfl, by simp⟩

theorem areAllK_rows {l : List (List Int)} {p : List Int → Option Bool} {r : Bool} (h : impl_areAll_rows.f l p = some r) : impl_areAll_rowsK.f (l.length + 1) l p = some r := by
  unfold impl_areAll_rows.f at h
  split at h
  · rename_i hl
    obtain ⟨j, h1, h2⟩ := indexFunc_rows p l hl l.length (l.length + 1) 0 r (by omega) (by omega) (by simpa using h)
    unfold impl_areAll_rowsK.f slices_ContainsFunc_rows.f slices_IndexFunc_rows.f
    have h1' : slices_IndexFunc_rows.l0 (l.length + 1) l (fun z_ => impl_areAll_rows_1.f z_ p) (l.length : Int) 0 = some j := h1
    rw [h1']
    simp only [Option.bind_some, h2, Bool.not_not]
  · cases h

theorem impl_areAll_rows.calls (A0 : Option Addr) (c0 : Nat) (l0 : List (List Int)) (F1 : Value) (a1 : (List Int → Option Bool)) (r : Bool) (w : World) (hr0 : Kd.C (Kd.slice 2 (Kd.int .i64)) w A0 l0.length l0) (hc0 : l0.length ≤ c0) (hF1 : FnL Try.prog w F1 a1) (h : impl_areAll_rows.f l0 a1 = some r) :
    Calls Try.prog 152 #[.slice A0 l0.length c0, F1] w fun e w' => e = .returned (.bool r) ∧ Below w.heap.size w w' :=
  impl_areAll_rowsK.calls _ A0 c0 l0 F1 a1 r w hr0 hc0 hF1 (areAllK_rows h)
/-! ### impl_polyCode: function 132 -/
def impl_polyCode.f (k : Nat) (a0 : Int) (a1 : Bool) (l2 : List (List Int)) : Option (Int) := (impl_areAll_rows.f l2 (fun z_ => impl_polyCode_1.f z_ a0)).bind fun t195 => (if t195 = true then ((impl_IsPrime.f k a0).bind fun t196 => (if t196 = true then (if a1 = true then (some 0) else (some 2)) else (some 2))) else (some 1))
theorem impl_polyCode.mono : ∀ a0 a1 a2 k, LeO (impl_polyCode.f k a0 a1 a2) (impl_polyCode.f (k + 1) a0 a1 a2) := by
 intro a0 a1 a2 k
 unfold impl_polyCode.f
 repeat' first
   | (with_reducible exact impl_IsPrime.mono _ _)
   | (with_reducible exact LeO.refl _)
   | (with_reducible exact LeO.none _)
   | (with_reducible refine LeO.ite ?_ ?_)
   | (with_reducible refine LeO.bind ?_ (fun _ => ?_))
   | exact impl_IsPrime.mono _ _
   | exact LeO.none _
   | refine LeO.ite ?_ ?_
   | refine LeO.bind ?_ (fun _ => ?_)
set_option maxHeartbeats 8000000 in
set_option maxRecDepth 100000 in
theorem impl_polyCode.calls (k : Nat) (a0 : Int) (F1 : Value) (a1 : Bool) (A2 : Option Addr) (c2 : Nat) (l2 : List (List Int)) (r : Int) (w : World) (hF1 : FnB Try.prog w F1 a1) (hr2 : Kd.C (Kd.slice 2 (Kd.int .i64)) w A2 l2.length l2) (hc2 : l2.length ≤ c2) (h : impl_polyCode.f k a0 a1 l2 = some r) :
  Calls Try.prog 132 #[.int .i64 a0, F1, .slice A2 l2.length c2] w fun e w' => e = .returned (.int .i64 r) ∧ Below w.heap.size w w' := by
 have hmf : ∀ (fn_ : Fn) (first_ cap_ : Array Value) (w_ : World), (Instr.makeFunc fn_ first_ cap_).run Try.prog w_ = .ok (.func fn_ first_ cap_) w_ := fun _ _ _ _ => rfl
 obtain ⟨G1, fi1, ca1, rfl, hen1, hF1⟩ := hF1
 have hen1 : ∀ (args_ : Array Value) (w_ : World), (callFunc G1 args_).run Try.prog w_ = .ok (.enter G1 args_) w_ := hen1
 have HF1 := zA hF1
 clear hF1
 have HR2 := zA hr2
 have HC2 := zA hc2
 clear hr2 hc2
 have HB := zA (Below.refl w.heap.size w)
 have H : ((impl_areAll_rows.f l2 (fun z_ => impl_polyCode_1.f z_ a0)).bind fun t195 => (if t195 = true then ((impl_IsPrime.f k a0).bind fun t196 => (if t196 = true then (if a1 = true then (some 0) else (some 2)) else (some 2))) else (some 1))) = some r := h
 clear h
 replace H := Option.bind_eq_some_iff.mp H
 obtain ⟨t195, A40, H⟩ := H
 replace H : (if t195 = true then ((impl_IsPrime.f k a0).bind fun t196 => (if t196 = true then (if a1 = true then (some 0) else (some 2)) else (some 2))) else (some 1)) = some r := H
 have A4 := zA A40
 clear A40
 by_cases c5 : t195 = true
 ·subst c5
  have H1 : ((impl_IsPrime.f k a0).bind fun t196 => (if t196 = true then (if a1 = true then (some 0) else (some 2)) else (some 2))) = some r := by rw [if_pos rfl] at H; exact H
  clear H
  have H := H1
  clear H1
  replace H := Option.bind_eq_some_iff.mp H
  obtain ⟨t196, A60, H⟩ := H
  replace H : (if t196 = true then (if a1 = true then (some 0) else (some 2)) else (some 2)) = some r := H
  have A6 := zA A60
  clear A60
  by_cases c7 : t196 = true
  ·subst c7
   have H1 : (if a1 = true then (some 0) else (some 2)) = some r := by rw [if_pos rfl] at H; exact H
   clear H
   have H := H1
   clear H1
   by_cases c8 : a1 = true
   ·subst c8
    have H1 : (some 0) = some r := by rw [if_pos rfl] at H; exact H
    clear H
    have H := H1
    clear H1
    obtain rfl := Option.some.inj H
    go_enter Try.func132, Try.ntmps132
    go_wp2_with (first | ((with_reducible refine gate_dst (N := 3) rfl ?_); refine bx 3 #[.int .i64 a0] 2 ?_; intro gb194 hg w9 hbox hb; have BK194 := zA (hbox); have GW194 := gq HB hg; have GE194 := gq HB hg; replace HB := xH HB hb; have := geI GE194; clear hb hbox hg) | ((with_reducible refine gate_callee (f := 152) rfl ?_); refine gL (some 10) Try.func152 #[.slice A2 l2.length c2, (.func (.func 153) #[] #[.pointer (some ⟨gb194, 0, none⟩)])] ?_; (with_reducible refine (impl_areAll_rows.calls _ _ l2 _ (fun z_ => impl_polyCode_1.f z_ a0) true _ ?side1 ?side2 ?side3 A4.out).mono ?_); (case side1 => exact uC ((Kd.C_below HR2.out HB.out))); (case side2 => exact HC2.out); (case side3 => exact FnL.of Try.func153 (by kernel_rfl) rfl (fun z_ r_ A_ c_ hr_ W_ hW_ hC_ hc_ => calls_of_args (args' := #[.slice A_ z_.length c_, .pointer (some ⟨gb194, 0, none⟩)]) (by simp) ((impl_polyCode_1.calls A_ c_ z_ _ a0 r_ W_ hC_ hc_ (blk_below (g := gb194) (o := .cells #[.int .i64 a0] 2 (0, 0)) (uB BK194.out) hW_) hr_).mono fun e_ W2_ h_ => ⟨h_.1, h_.2⟩))); rintro e w10 ⟨rfl, hb⟩; refine ⟨_, rfl, ?_⟩; replace BK194 := xB BK194 hb; replace HB := xH HB hb; (try clear hb); (try clear hb2); (try clear hk); (try clear hi); have hcz11_0 := bc BK194 0; have hfz11_0 := bf BK194 0) | ((with_reducible refine gate_callee (f := 149) rfl ?_); refine gL (some 14) Try.func149 #[.int .i64 a0] ?_; (with_reducible refine (impl_IsPrime.calls k a0 true _ A6.out).mono ?_); rintro e w' ⟨rfl, ⟨nd, rfl⟩⟩; refine ⟨_, rfl, ?_⟩) | (go_at_fn G1; refine calls_of_args (args' := fi1 ++ ca1) (by simp) ?_; refine (HF1.out _ (uH HB.out)).mono ?_; rintro e w12 ⟨rfl, hb⟩; replace BK194 := xB BK194 hb; replace HB := xH HB hb; (try clear hb)))
    go_ret
    exact ⟨by first | rfl | (simp [errW_none, errW_some] <;> rfl) | (simp [*, errW_none, errW_some] <;> rfl), uH HB.out⟩
   ·replace c8 := Bool.eq_false_iff.mpr c8
    subst c8
    have H1 : (some 2) = some r := by rw [if_neg (show ¬ (false = true) by decide)] at H; exact H
    clear H
    have H := H1
    clear H1
    obtain rfl := Option.some.inj H
    go_enter Try.func132, Try.ntmps132
    go_wp2_with (first | ((with_reducible refine gate_dst (N := 3) rfl ?_); refine bx 3 #[.int .i64 a0] 2 ?_; intro gb194 hg w13 hbox hb; have BK194 := zA (hbox); have GW194 := gq HB hg; have GE194 := gq HB hg; replace HB := xH HB hb; have := geI GE194; clear hb hbox hg) | ((with_reducible refine gate_callee (f := 152) rfl ?_); refine gL (some 10) Try.func152 #[.slice A2 l2.length c2, (.func (.func 153) #[] #[.pointer (some ⟨gb194, 0, none⟩)])] ?_; (with_reducible refine (impl_areAll_rows.calls _ _ l2 _ (fun z_ => impl_polyCode_1.f z_ a0) true _ ?side1 ?side2 ?side3 A4.out).mono ?_); (case side1 => exact uC ((Kd.C_below HR2.out HB.out))); (case side2 => exact HC2.out); (case side3 => exact FnL.of Try.func153 (by kernel_rfl) rfl (fun z_ r_ A_ c_ hr_ W_ hW_ hC_ hc_ => calls_of_args (args' := #[.slice A_ z_.length c_, .pointer (some ⟨gb194, 0, none⟩)]) (by simp) ((impl_polyCode_1.calls A_ c_ z_ _ a0 r_ W_ hC_ hc_ (blk_below (g := gb194) (o := .cells #[.int .i64 a0] 2 (0, 0)) (uB BK194.out) hW_) hr_).mono fun e_ W2_ h_ => ⟨h_.1, h_.2⟩))); rintro e w14 ⟨rfl, hb⟩; refine ⟨_, rfl, ?_⟩; replace BK194 := xB BK194 hb; replace HB := xH HB hb; (try clear hb); (try clear hb2); (try clear hk); (try clear hi); have hcz15_0 := bc BK194 0; have hfz15_0 := bf BK194 0) | ((with_reducible refine gate_callee (f := 149) rfl ?_); refine gL (some 14) Try.func149 #[.int .i64 a0] ?_; (with_reducible refine (impl_IsPrime.calls k a0 true _ A6.out).mono ?_); rintro e w' ⟨rfl, ⟨nd, rfl⟩⟩; refine ⟨_, rfl, ?_⟩) | (go_at_fn G1; refine calls_of_args (args' := fi1 ++ ca1) (by simp) ?_; refine (HF1.out _ (uH HB.out)).mono ?_; rintro e w16 ⟨rfl, hb⟩; replace BK194 := xB BK194 hb; replace HB := xH HB hb; (try clear hb)))
    go_ret
    exact ⟨by first | rfl | (simp [errW_none, errW_some] <;> rfl) | (simp [*, errW_none, errW_some] <;> rfl), uH HB.out⟩
  ·replace c7 := Bool.eq_false_iff.mpr c7
   subst c7
   have H1 : (some 2) = some r := by rw [if_neg (show ¬ (false = true) by decide)] at H; exact H
   clear H
   have H := H1
   clear H1
   obtain rfl := Option.some.inj H
   go_enter Try.func132, Try.ntmps132
   go_wp2_with (first | ((with_reducible refine gate_dst (N := 3) rfl ?_); refine bx 3 #[.int .i64 a0] 2 ?_; intro gb194 hg w17 hbox hb; have BK194 := zA (hbox); have GW194 := gq HB hg; have GE194 := gq HB hg; replace HB := xH HB hb; have := geI GE194; clear hb hbox hg) | ((with_reducible refine gate_callee (f := 152) rfl ?_); refine gL (some 10) Try.func152 #[.slice A2 l2.length c2, (.func (.func 153) #[] #[.pointer (some ⟨gb194, 0, none⟩)])] ?_; (with_reducible refine (impl_areAll_rows.calls _ _ l2 _ (fun z_ => impl_polyCode_1.f z_ a0) true _ ?side1 ?side2 ?side3 A4.out).mono ?_); (case side1 => exact uC ((Kd.C_below HR2.out HB.out))); (case side2 => exact HC2.out); (case side3 => exact FnL.of Try.func153 (by kernel_rfl) rfl (fun z_ r_ A_ c_ hr_ W_ hW_ hC_ hc_ => calls_of_args (args' := #[.slice A_ z_.length c_, .pointer (some ⟨gb194, 0, none⟩)]) (by simp) ((impl_polyCode_1.calls A_ c_ z_ _ a0 r_ W_ hC_ hc_ (blk_below (g := gb194) (o := .cells #[.int .i64 a0] 2 (0, 0)) (uB BK194.out) hW_) hr_).mono fun e_ W2_ h_ => ⟨h_.1, h_.2⟩))); rintro e w18 ⟨rfl, hb⟩; refine ⟨_, rfl, ?_⟩; replace BK194 := xB BK194 hb; replace HB := xH HB hb; (try clear hb); (try clear hb2); (try clear hk); (try clear hi); have hcz19_0 := bc BK194 0; have hfz19_0 := bf BK194 0) | ((with_reducible refine gate_callee (f := 149) rfl ?_); refine gL (some 14) Try.func149 #[.int .i64 a0] ?_; (with_reducible refine (impl_IsPrime.calls k a0 false _ A6.out).mono ?_); rintro e w' ⟨rfl, ⟨nd, rfl⟩⟩; refine ⟨_, rfl, ?_⟩))
   go_ret
   exact ⟨by first | rfl | (simp [errW_none, errW_some] <;> rfl) | (simp [*, errW_none, errW_some] <;> rfl), uH HB.out⟩
 ·replace c5 := Bool.eq_false_iff.mpr c5
  subst c5
  have H1 : (some 1) = some r := by rw [if_neg (show ¬ (false = true) by decide)] at H; exact H
  clear H
  have H := H1
  clear H1
  obtain rfl := Option.some.inj H
  go_enter Try.func132, Try.ntmps132
  go_wp2_with (first | ((with_reducible refine gate_dst (N := 3) rfl ?_); refine bx 3 #[.int .i64 a0] 2 ?_; intro gb194 hg w20 hbox hb; have BK194 := zA (hbox); have GW194 := gq HB hg; have GE194 := gq HB hg; replace HB := xH HB hb; have := geI GE194; clear hb hbox hg) | ((with_reducible refine gate_callee (f := 152) rfl ?_); refine gL (some 10) Try.func152 #[.slice A2 l2.length c2, (.func (.func 153) #[] #[.pointer (some ⟨gb194, 0, none⟩)])] ?_; (with_reducible refine (impl_areAll_rows.calls _ _ l2 _ (fun z_ => impl_polyCode_1.f z_ a0) false _ ?side1 ?side2 ?side3 A4.out).mono ?_); (case side1 => exact uC ((Kd.C_below HR2.out HB.out))); (case side2 => exact HC2.out); (case side3 => exact FnL.of Try.func153 (by kernel_rfl) rfl (fun z_ r_ A_ c_ hr_ W_ hW_ hC_ hc_ => calls_of_args (args' := #[.slice A_ z_.length c_, .pointer (some ⟨gb194, 0, none⟩)]) (by simp) ((impl_polyCode_1.calls A_ c_ z_ _ a0 r_ W_ hC_ hc_ (blk_below (g := gb194) (o := .cells #[.int .i64 a0] 2 (0, 0)) (uB BK194.out) hW_) hr_).mono fun e_ W2_ h_ => ⟨h_.1, h_.2⟩))); rintro e w21 ⟨rfl, hb⟩; refine ⟨_, rfl, ?_⟩; replace BK194 := xB BK194 hb; replace HB := xH HB hb; (try clear hb); (try clear hb2); (try clear hk); (try clear hi)))
  go_ret
  exact ⟨by first | rfl | (simp [errW_none, errW_some] <;> rfl) | (simp [*, errW_none, errW_some] <;> rfl), uH HB.out⟩
/-! ### impl_momentsCode: function 93 -/
def impl_momentsCode.f (k : Nat) (a0_0 : Int) (l0_1 : List Int) (a1 : Bool) (l2 : List (List Int)) : Option (Int) := (impl_AreMoments.f k a0_0 l0_1).bind fun t910 => (if t910 = true then ((impl_polyCode.f k a0_0 a1 l2).bind fun t911 => (some t911)) else (some 1))
theorem impl_momentsCode.mono : ∀ a0 a1 a2 a3 k, LeO (impl_momentsCode.f k a0 a1 a2 a3) (impl_momentsCode.f (k + 1) a0 a1 a2 a3) := by
 intro a0 a1 a2 a3 k
 unfold impl_momentsCode.f
 repeat' first
   | (with_reducible exact impl_AreMoments.mono _ _ _)
   | (with_reducible exact impl_polyCode.mono _ _ _ _)
   | (with_reducible exact LeO.refl _)
   | (with_reducible exact LeO.none _)
   | (with_reducible refine LeO.ite ?_ ?_)
   | (with_reducible refine LeO.bind ?_ (fun _ => ?_))
   | exact impl_AreMoments.mono _ _ _
   | exact impl_polyCode.mono _ _ _ _
   | exact LeO.none _
   | refine LeO.ite ?_ ?_
   | refine LeO.bind ?_ (fun _ => ?_)
set_option maxHeartbeats 8000000 in
set_option maxRecDepth 100000 in
theorem impl_momentsCode.calls (k : Nat) (a0_0 : Int) (A0_1 : Option Addr) (c0_1 : Nat) (l0_1 : List Int) (F1 : Value) (a1 : Bool) (A2 : Option Addr) (c2 : Nat) (l2 : List (List Int)) (r : Int) (w : World) (hr0_1 : Kd.C (Kd.int .i64) w A0_1 l0_1.length l0_1) (hc0_1 : l0_1.length ≤ c0_1) (hF1 : FnB Try.prog w F1 a1) (hr2 : Kd.C (Kd.slice 2 (Kd.int .i64)) w A2 l2.length l2) (hc2 : l2.length ≤ c2) (h : impl_momentsCode.f k a0_0 l0_1 a1 l2 = some r) :
  Calls Try.prog 93 #[.agg #[.int .i64 a0_0, .slice A0_1 l0_1.length c0_1], F1, .slice A2 l2.length c2] w fun e w' => e = .returned (.int .i64 r) ∧ Below w.heap.size w w' := by
 have hu31 := Try.underlying31
 have HR0_1 := zA hr0_1
 have HC0_1 := zA hc0_1
 clear hr0_1 hc0_1
 obtain ⟨G1, fi1, ca1, rfl, hen1, hF1⟩ := hF1
 have hen1 : ∀ (args_ : Array Value) (w_ : World), (callFunc G1 args_).run Try.prog w_ = .ok (.enter G1 args_) w_ := hen1
 have HF1 := zA hF1
 clear hF1
 have HR2 := zA hr2
 have HC2 := zA hc2
 clear hr2 hc2
 have HB := zA (Below.refl w.heap.size w)
 have H : ((impl_AreMoments.f k a0_0 l0_1).bind fun t910 => (if t910 = true then ((impl_polyCode.f k a0_0 a1 l2).bind fun t911 => (some t911)) else (some 1))) = some r := h
 clear h
 replace H := Option.bind_eq_some_iff.mp H
 obtain ⟨t910, A40, H⟩ := H
 replace H : (if t910 = true then ((impl_polyCode.f k a0_0 a1 l2).bind fun t911 => (some t911)) else (some 1)) = some r := H
 have A4 := zA A40
 clear A40
 by_cases c5 : t910 = true
 ·subst c5
  have H1 : ((impl_polyCode.f k a0_0 a1 l2).bind fun t911 => (some t911)) = some r := by rw [if_pos rfl] at H; exact H
  clear H
  have H := H1
  clear H1
  replace H := Option.bind_eq_some_iff.mp H
  obtain ⟨t911, A60, H⟩ := H
  replace H : (some t911) = some r := H
  have A6 := zA A60
  clear A60
  obtain rfl := Option.some.inj H
  go_enter Try.func93, Try.ntmps93
  go_wp2_with (first | ((with_reducible refine gate_dst (N := 3) rfl ?_); refine bx 3 #[.int .i64 a0_0, .slice A0_1 l0_1.length c0_1] 31 ?_; intro gb909 hg w7 hbox hb; have BK909 := zA (hbox); have GW909 := gq HB hg; have GE909 := gq HB hg; replace HB := xH HB hb; have := geI GE909; clear hb hbox hg; have hcz8_0 := bc BK909 0; have hcz8_1 := bc BK909 1; have hfz8_0 := bf BK909 0; have hfz8_1 := bf BK909 1) | ((with_reducible refine gate_callee (f := 130) rfl ?_); refine gL (some 8) Try.func130 #[.agg #[.int .i64 a0_0, .slice A0_1 l0_1.length c0_1]] ?_; (with_reducible refine (impl_AreMoments.calls k a0_0 _ _ l0_1 true _ ?side1 ?side2 A4.out).mono ?_); (case side1 => exact uC ((Kd.C_below HR0_1.out HB.out))); (case side2 => exact HC0_1.out); rintro e w9 ⟨rfl, hb⟩; refine ⟨_, rfl, ?_⟩; replace BK909 := xB BK909 hb; replace HB := xH HB hb; (try clear hb); (try clear hb2); (try clear hk); (try clear hi); have hcz10_0 := bc BK909 0; have hcz10_1 := bc BK909 1; have hfz10_0 := bf BK909 0; have hfz10_1 := bf BK909 1) | ((with_reducible refine gate_callee (f := 132) rfl ?_); refine gL (some 14) Try.func132 #[.int .i64 a0_0, (.func (.func G1) fi1 ca1), .slice A2 l2.length c2] ?_; (with_reducible refine (impl_polyCode.calls k a0_0 _ a1 _ _ l2 t911 _ ?side1 ?side2 ?side3 A6.out).mono ?_); (case side1 => exact FnB.later (uH HB.out) (show FnB Try.prog w (.func (.func G1) fi1 ca1) a1 from ⟨_, _, _, rfl, hen1, HF1.out⟩)); (case side2 => exact uC ((Kd.C_below HR2.out HB.out))); (case side3 => exact HC2.out); rintro e w11 ⟨rfl, hb⟩; refine ⟨_, rfl, ?_⟩; replace BK909 := xB BK909 hb; replace HB := xH HB hb; (try clear hb); (try clear hb2); (try clear hk); (try clear hi)))
  go_ret
  exact ⟨by first | rfl | (simp [errW_none, errW_some] <;> rfl) | (simp [*, errW_none, errW_some] <;> rfl), uH HB.out⟩
 ·replace c5 := Bool.eq_false_iff.mpr c5
  subst c5
  have H1 : (some 1) = some r := by rw [if_neg (show ¬ (false = true) by decide)] at H; exact H
  clear H
  have H := H1
  clear H1
  obtain rfl := Option.some.inj H
  go_enter Try.func93, Try.ntmps93
  go_wp2_with (first | ((with_reducible refine gate_dst (N := 3) rfl ?_); refine bx 3 #[.int .i64 a0_0, .slice A0_1 l0_1.length c0_1] 31 ?_; intro gb909 hg w12 hbox hb; have BK909 := zA (hbox); have GW909 := gq HB hg; have GE909 := gq HB hg; replace HB := xH HB hb; have := geI GE909; clear hb hbox hg; have hcz13_0 := bc BK909 0; have hcz13_1 := bc BK909 1; have hfz13_0 := bf BK909 0; have hfz13_1 := bf BK909 1) | ((with_reducible refine gate_callee (f := 130) rfl ?_); refine gL (some 8) Try.func130 #[.agg #[.int .i64 a0_0, .slice A0_1 l0_1.length c0_1]] ?_; (with_reducible refine (impl_AreMoments.calls k a0_0 _ _ l0_1 false _ ?side1 ?side2 A4.out).mono ?_); (case side1 => exact uC ((Kd.C_below HR0_1.out HB.out))); (case side2 => exact HC0_1.out); rintro e w14 ⟨rfl, hb⟩; refine ⟨_, rfl, ?_⟩; replace BK909 := xB BK909 hb; replace HB := xH HB hb; (try clear hb); (try clear hb2); (try clear hk); (try clear hi)))
  go_ret
  exact ⟨by first | rfl | (simp [errW_none, errW_some] <;> rfl) | (simp [*, errW_none, errW_some] <;> rfl), uH HB.out⟩
/- Plain lemmas: rounds (Ev), wrapped sums, rests modulo p, lists read and written at an index. No program is in sight. -/
section
variable {α β : Type}
theorem Ev.pos {c : Prop} [Decidable c] {X Y : Nat → Option α} {r : α} (h : c) (e : Ev X r) : Ev (fun k => if c then X k else Y k) r := by
  simpa only [if_pos h] using e
theorem Ev.neg {c : Prop} [Decidable c] {X Y : Nat → Option α} {r : α} (h : ¬ c) (e : Ev Y r) : Ev (fun k => if c then X k else Y k) r := by
  simpa only [if_neg h] using e
theorem Ev.eq {x : Option α} {r : α} (h : x = some r) : Ev (fun _ => x) r := ⟨0, fun _ _ => h⟩
theorem Ev.some' {r s : α} (h : r = s) : Ev (fun _ => some r) s := ⟨0, fun _ _ => by rw [h]⟩
theorem Ev.bindE {x : Option α} {f : Nat → α → Option β} {a : α} {r : β} (h : x = some a) (e : Ev (fun n => f n a) r) : Ev (fun n => x.bind (f n)) r := by
  subst h; simpa using e
theorem Ev.cast {g : Nat → Option α} {r s : α} (h : Ev g r) (e : r = s) : Ev g s := e ▸ h
theorem Ev.fn {g : Nat → Option α} {r s : α} (h : Ev g r) (h' : Ev g s) : r = s := by
  obtain ⟨K, h⟩ := h
  obtain ⟨K', h'⟩ := h'
  have a := h (max K K') (by omega)
  have b := h' (max K K') (by omega)
  rw [a] at b
  exact Option.some.inj b
end

theorem ne_self {α : Type} [BEq α] [LawfulBEq α] (a : α) : ¬ ((a != a) = true) := by simp

theorem wrap_id {x : Int} (h0 : -9223372036854775808 ≤ x) (h1 : x < 9223372036854775808) : wrap64 x = x := by unfold wrap64; omega
theorem wsucc {i n : Nat} (h : i < n) (hn : n < 4611686018427387904) : wrap64 ((i : Int) + 1) = ((i + 1 : Nat) : Int) := by unfold wrap64; omega
theorem wadd {i j n : Nat} (h : i + j < n) (hn : n < 4611686018427387904) : wrap64 ((i : Int) + (j : Int)) = ((i + j : Nat) : Int) := by unfold wrap64; omega
theorem wpred {i : Nat} (h : 0 < i) (hn : i < 4611686018427387904) : wrap64 ((i : Int) - 1) = ((i - 1 : Nat) : Int) := by unfold wrap64; omega

theorem rd_nat (l : List Int) (i : Nat) : rd l (i : Int) = l.getD i 0 := by simp [rd]
theorem rdL_nat (l : List (List Int)) (i : Nat) : rd_L1 l (i : Int) = l.getD i [] := by simp [rd_L1]
theorem getD_mem {α : Type} {l : List α} {i : Nat} {d : α} (h : i < l.length) : l.getD i d ∈ l := by
  simp only [List.getD_eq_getElem?_getD, List.getElem?_eq_getElem h, Option.getD_some]; exact List.getElem_mem h
theorem toNat_nat (i : Nat) : ((i : Int)).toNat = i := rfl

/-- A length that is small. -/
abbrev Sm (n : Nat) : Prop := n ≤ 1048576

/-- Numbers modulo p. -/
def Nm (p : Int) (l : List Int) : Prop := ∀ x ∈ l, 0 ≤ x ∧ x < p
theorem Nm.nil (p : Int) : Nm p [] := fun x h => by cases h
theorem Nm.cons {p x : Int} {l : List Int} (h0 : 0 ≤ x) (h1 : x < p) (h : Nm p l) : Nm p (x :: l) := fun y hy => by
  rcases List.mem_cons.1 hy with rfl | hy
  · exact ⟨h0, h1⟩
  · exact h y hy
theorem Nm.append {p : Int} {l m : List Int} (h : Nm p l) (h' : Nm p m) : Nm p (l ++ m) := fun y hy => by
  rcases List.mem_append.1 hy with hy | hy
  · exact h y hy
  · exact h' y hy
theorem Nm.get {p : Int} {l : List Int} (h : Nm p l) {i : Nat} (hi : i < l.length) : 0 ≤ l.getD i 0 ∧ l.getD i 0 < p := h _ (getD_mem hi)
theorem Nm.getp {p : Int} {l : List Int} (h : Nm p l) (hp : 0 < p) (i : Nat) : 0 ≤ l.getD i 0 ∧ l.getD i 0 < p := by
  by_cases hi : i < l.length
  · exact h.get hi
  · rw [List.getD_eq_getElem?_getD, List.getElem?_eq_none (by omega)]; exact ⟨Int.le_refl _, hp⟩
theorem Nm.take {p : Int} {l : List Int} (h : Nm p l) (n : Nat) : Nm p (l.take n) := fun x hx => h x (List.mem_of_mem_take hx)
theorem Nm.drop {p : Int} {l : List Int} (h : Nm p l) (n : Nat) : Nm p (l.drop n) := fun x hx => h x (List.mem_of_mem_drop hx)
theorem Nm.set {p x : Int} {l : List Int} (h : Nm p l) (h0 : 0 ≤ x) (h1 : x < p) (i : Nat) : Nm p (l.set i x) := fun y hy => by
  rcases List.mem_or_eq_of_mem_set hy with hy | rfl
  · exact h y hy
  · exact ⟨h0, h1⟩
theorem Nm.zeros {p : Int} (hp : 0 < p) (n : Nat) : Nm p (List.replicate n 0) := fun x hx => by
  rw [(List.mem_replicate.1 hx).2]; exact ⟨Int.le_refl _, hp⟩
instance (p : Int) (l : List Int) : Decidable (Nm p l) := by unfold Nm; infer_instance

theorem wf64 {x : Int} (h : (Lit.int .i64 x).wf = true) : -9223372036854775808 ≤ x ∧ x ≤ 9223372036854775807 := by
  have h2 : IntKind.i64.min ≤ x ∧ x ≤ 9223372036854775807 := by simpa [Lit.wf] using h
  exact h2
/-- A modulus that the program may have (in its range; a prime or not). -/
structure Pm (p : Int) : Prop where
  two : 2 ≤ p
  top : p ≤ 10007
theorem Pm.pos {p : Int} (h : Pm p) : 0 < p := by have := h.two; omega
theorem Pm.ne {p : Int} (h : Pm p) : p ≠ 0 := by have := h.two; omega

theorem mulB {a b m n : Int} (ha : 0 ≤ a) (ha' : a ≤ m) (hb : 0 ≤ b) (hb' : b ≤ n) : 0 ≤ a * b ∧ a * b ≤ m * n :=
  ⟨Int.mul_nonneg ha hb, Int.mul_le_mul ha' hb' hb (by omega)⟩
/-- A product of two numbers modulo p. -/
theorem mulP {p a b : Int} (hp : Pm p) (ha : 0 ≤ a) (ha' : a < p) (hb : 0 ≤ b) (hb' : b < p) : 0 ≤ a * b ∧ a * b ≤ 100140049 := by
  have h1 := hp.top
  have h := mulB (m := 10007) (n := 10007) ha (by omega) hb (by omega)
  exact ⟨h.1, by omega⟩
theorem tmod_pos {a b : Int} (h : 0 ≤ a) : Int.tmod a b = a % b := Int.tmod_eq_emod_of_nonneg h
theorem emodB {p : Int} (hp : 0 < p) (x : Int) : 0 ≤ x % p ∧ x % p < p := ⟨Int.emod_nonneg _ (by omega), Int.emod_lt_of_pos _ hp⟩
/-- Go's '(x % p + p) % p' is the rest of x. -/
theorem go_mod {p x : Int} (hp : Pm p) : Int.tmod (wrap64 (Int.tmod x p + p)) p = x % p := by
  have h2 := hp.two
  have ht := hp.top
  have h := Int.tmod_eq_emod (a := x) (b := p)
  have hb := emodB hp.pos x
  have hn : ((p.natAbs : Nat) : Int) = p := by omega
  split at h
  · rw [h, Int.natCast_zero, wrap_id (by omega) (by omega), tmod_pos (by omega), show x % p - 0 + p = x % p + p from by omega, Int.add_emod_right, Int.emod_emod]
  · rw [h, hn, wrap_id (by omega) (by omega), tmod_pos (by omega), show x % p - p + p = x % p from by omega, Int.emod_emod]

/-- A list without noughts at its end. -/
def trim (l : List Int) : List Int := (l.reverse.dropWhile (· == 0)).reverse
theorem trim_nil : trim [] = [] := rfl
theorem trim_snoc_zero (l : List Int) : trim (l ++ [0]) = trim l := by simp [trim]
theorem trim_snoc (l : List Int) {x : Int} (h : x ≠ 0) : trim (l ++ [x]) = l ++ [x] := by simp [trim, h]
theorem snocInd {α : Type} {P : List α → Prop} (h0 : P []) (h1 : ∀ l x, P l → P (l ++ [x])) (l : List α) : P l := by
  have h : ∀ l : List α, P l.reverse := by
    intro l
    induction l with
    | nil => exact h0
    | cons x l ih => rw [List.reverse_cons]; exact h1 _ _ ih
  simpa using h l.reverse
theorem trim_sub (l : List Int) : ∃ n, l = trim l ++ List.replicate n 0 := by
  induction l using snocInd with
  | h0 => exact ⟨0, rfl⟩
  | h1 l x ih =>
    by_cases h : x = 0
    · subst h
      obtain ⟨n, hn⟩ := ih
      refine ⟨n + 1, ?_⟩
      rw [trim_snoc_zero, List.replicate_succ', ← List.append_assoc, ← hn]
    · exact ⟨0, by rw [trim_snoc l h]; simp⟩
/- Copies of lists; no condition. -/
theorem Sm0 : Sm ([] : List Int).length := by simp [Sm]
theorem Sm.take {l : List Int} (h : Sm l.length) (n : Nat) : Sm (l.take n).length := by unfold Sm at h ⊢; rw [List.length_take]; omega
theorem Sm.drop {l : List Int} (h : Sm l.length) (n : Nat) : Sm (l.drop n).length := by unfold Sm at h ⊢; rw [List.length_drop]; omega
theorem own_eq (l : List Int) (hl : Sm l.length) : spec_l01Own.f l = some l := by
  unfold spec_l01Own.f
  simp only [Option.bind_some, List.length_nil, List.nil_append]
  rw [if_pos (by unfold Sm at hl; omega)]
theorem clone_eq (l : List Int) (hl : Sm l.length) : slices_Clone_ints.f l = some l := by
  unfold slices_Clone_ints.f
  rw [if_pos (by unfold Sm at hl; omega)]
/- What the laws' own helpers compute: copies, comparisons, marks. -/
theorem set_take_step (l : List Int) (i : Nat) (h : i < l.length) : (l.take i ++ List.replicate (l.length - i) 0).set i (l.getD i 0) = l.take (i + 1) ++ List.replicate (l.length - (i + 1)) 0 := by
  obtain ⟨m, hm⟩ : ∃ m, l.length - i = m + 1 := ⟨l.length - i - 1, by omega⟩
  rw [List.set_append_right (h := by simp; omega)]
  rw [hm, List.replicate_succ]
  have e : i - (l.take i).length = 0 := by simp; omega
  rw [e, List.set_cons_zero, List.take_succ_eq_append_getElem h]
  have e2 : l.length - (i + 1) = m := by omega
  rw [e2, List.append_assoc]
  simp [List.getD, h]

theorem toInt64S_l0 (l : List Int) (hl : Sm l.length) (d : Nat) : ∀ i, i + d = l.length → Ev (fun k => laws_toInt64S.l0 k l (l.take i ++ List.replicate (l.length - i) 0) (i : Int)) l := by
  induction d with
  | zero =>
    intro i hi
    refine Ev.step (fun k => by rw [laws_toInt64S.l0]) ?_
    refine Ev.neg (by omega) (Ev.some' ?_)
    have e : l.length - i = 0 := by omega
    rw [e, List.take_of_length_le (by omega)]; simp
  | succ d ih =>
    intro i hi
    have hlen : (l.take i ++ List.replicate (l.length - i) (0 : Int)).length = l.length := by simp; omega
    refine Ev.step (fun k => by rw [laws_toInt64S.l0]) ?_
    refine Ev.pos (by omega) (Ev.pos (by omega) (Ev.pos (by rw [hlen]; omega) ?_))
    rw [toNat_nat, rd_nat, set_take_step l i (by omega), wsucc (i := i) (n := l.length) (by omega) (by unfold Sm at hl; omega)]
    exact ih (i + 1) (by omega)
theorem toInt64S_ev (l : List Int) (hl : Sm l.length) : Ev (fun k => laws_toInt64S.f k l) l := by
  unfold laws_toInt64S.f
  refine Ev.pos (by omega) (Ev.pos (by unfold Sm at hl; rw [toNat_nat]; omega) ?_)
  have h := toInt64S_l0 l hl l.length 0 (by omega)
  simpa using h

theorem eqInt64S_l0 (l : List Int) (hl : Sm l.length) (d : Nat) : ∀ i, i + d = l.length → Ev (fun k => laws_eqInt64S.l0 k l l (i : Int)) true := by
  induction d with
  | zero =>
    intro i hi
    refine Ev.step (fun k => by rw [laws_eqInt64S.l0]) ?_
    exact Ev.neg (by omega) (Ev.now _)
  | succ d ih =>
    intro i hi
    refine Ev.step (fun k => by rw [laws_eqInt64S.l0]) ?_
    refine Ev.pos (by omega) (Ev.pos (by omega) (Ev.pos (by omega) (Ev.pos rfl ?_)))
    rw [wsucc (i := i) (n := l.length) (by omega) (by unfold Sm at hl; omega)]
    exact ih (i + 1) (by omega)
theorem eqInt64S_ev (l : List Int) (hl : Sm l.length) : Ev (fun k => laws_eqInt64S.f k l l) true := by
  unfold laws_eqInt64S.f
  exact Ev.pos rfl (eqInt64S_l0 l hl l.length 0 (by omega))

/-- The marks m, m + 1, .. -/
def marks (m n : Nat) : List Int := (List.range n).map fun i => ((m + i : Nat) : Int)
theorem marks_length (m n : Nat) : (marks m n).length = n := by simp [marks]
theorem marks_get (m n i : Nat) (h : i < n) : (marks m n).getD i 0 = ((m + i : Nat) : Int) := by
  simp [marks, List.getD, h]

theorem markInt64S_l0 (l : List Int) (m : Nat) (hl : Sm l.length) (hm : m ≤ 4611686018427387904 - 4194304) (d : Nat) : ∀ i, i + d = l.length →
    Ev (fun k => laws_markInt64S.l0 k (marks m i ++ l.drop i) ((m + i : Nat) : Int) (i : Int)) (((m + l.length : Nat) : Int), marks m l.length) := by
  induction d with
  | zero =>
    intro i hi
    have hlen : (marks m i ++ l.drop i).length = l.length := by simp [marks_length]; omega
    refine Ev.step (fun k => by rw [laws_markInt64S.l0]) ?_
    refine Ev.neg (by rw [hlen]; omega) (Ev.some' ?_)
    have e : i = l.length := by omega
    subst e
    simp
  | succ d ih =>
    intro i hi
    have hlen : (marks m i ++ l.drop i).length = l.length := by simp [marks_length]; omega
    refine Ev.step (fun k => by rw [laws_markInt64S.l0]) ?_
    refine Ev.pos (by rw [hlen]; omega) (Ev.pos (by omega) ?_)
    have e : (marks m i ++ l.drop i).set ((i : Int)).toNat ((m + i : Nat) : Int) = marks m (i + 1) ++ l.drop (i + 1) := by
      rw [toNat_nat, List.set_append_right (h := by simp [marks_length])]
      rw [marks_length, Nat.sub_self, List.drop_eq_getElem_cons (by omega), List.set_cons_zero]
      unfold marks
      rw [List.range_succ, List.map_append, List.append_assoc]
      rfl
    rw [e, wsucc (i := i) (n := l.length) (by omega) (by unfold Sm at hl; omega), wsucc (i := m + i) (n := m + i + 1) (by omega) (by unfold Sm at hl; omega)]
    exact ih (i + 1) (by omega)
theorem markInt64S_ev (l : List Int) (m : Nat) (hl : Sm l.length) (hm : m ≤ 4611686018427387904 - 4194304) :
    Ev (fun k => laws_markInt64S.f k l (m : Int)) (((m + l.length : Nat) : Int), marks m l.length) := by
  unfold laws_markInt64S.f
  have h := markInt64S_l0 l m hl hm l.length 0 (by omega)
  simpa [marks] using h

theorem heldInt64S_l0 (n m : Nat) (hl : Sm n) (hm : m ≤ 4611686018427387904 - 4194304) (d : Nat) : ∀ i, i + d = n →
    Ev (fun k => laws_heldInt64S.l0 k (marks m n) ((m + i : Nat) : Int) (i : Int)) ((m + n : Nat) : Int) := by
  induction d with
  | zero =>
    intro i hi
    refine Ev.step (fun k => by rw [laws_heldInt64S.l0]) ?_
    refine Ev.neg (by rw [marks_length]; omega) (Ev.some' ?_)
    have e : i = n := by omega
    rw [e]
  | succ d ih =>
    intro i hi
    refine Ev.step (fun k => by rw [laws_heldInt64S.l0]) ?_
    refine Ev.pos (by rw [marks_length]; omega) (Ev.pos (by omega) (Ev.pos (by rw [rd_nat, marks_get m n i (by omega)]) ?_))
    rw [wsucc (i := i) (n := n) (by omega) (by unfold Sm at hl; omega), wsucc (i := m + i) (n := m + i + 1) (by omega) (by unfold Sm at hl; omega)]
    exact ih (i + 1) (by omega)
theorem heldInt64S_ev (n m : Nat) (hl : Sm n) (hm : m ≤ 4611686018427387904 - 4194304) : Ev (fun k => laws_heldInt64S.f k (marks m n) (m : Int)) ((m + n : Nat) : Int) := by
  unfold laws_heldInt64S.f
  exact heldInt64S_l0 n m hl hm n 0 (by omega)

theorem szInt64S_yes (l : List Int) (a : Nat) (ha : a ≤ 1048576) (h : l.length ≤ a) : laws_szInt64S.f l (a : Int) = some ((a - l.length : Nat) : Int) := by
  unfold laws_szInt64S.f
  rw [wrap_id (by omega) (by omega), if_neg (by omega)]
  congr 1
  omega
theorem szInt64S_no (l : List Int) (a : Nat) (hl : l.length ≤ 9223372036854775807) (ha : a ≤ 1048576) (h : a < l.length) : laws_szInt64S.f l (a : Int) = some (-1) := by
  unfold laws_szInt64S.f
  rw [wrap_id (by omega) (by omega), if_pos (by omega)]
/- The laws' helpers at Moments: copies, comparisons, marks. -/
theorem toMoments_ev (p : Int) (l0 : List Int) (h0 : Sm l0.length) : Ev (fun k => laws_toMoments.f k p l0) (p, l0) := by
  unfold laws_toMoments.f
  exact Ev.bind (toInt64S_ev _ h0) (Ev.now _)
theorem eqMoments_ev (p : Int) (l0 : List Int) (h0 : Sm l0.length) : Ev (fun k => laws_eqMoments.f k p l0 p l0) true := by
  unfold laws_eqMoments.f
  exact Ev.pos rfl (Ev.bind (eqInt64S_ev _ h0) (Ev.pos rfl (Ev.now _)))
theorem markMoments_ev (p : Int) (l0 : List Int) (h0 : Sm l0.length) (m : Nat) (hm : m ≤ 4194304) : Ev (fun k => laws_markMoments.f k p l0 (m : Int)) (((m + l0.length : Nat) : Int), marks (m) l0.length) := by
  unfold laws_markMoments.f
  unfold Sm at h0
  exact Ev.bind (markInt64S_ev _ _ h0 (by omega)) (Ev.now _)
theorem heldMoments_ev (p : Int) (n0 : Nat) (h0 : Sm n0) (m : Nat) (hm : m ≤ 4194304) : Ev (fun k => laws_heldMoments.f k p (marks (m) n0) (m : Int)) ((m + n0 : Nat) : Int) := by
  unfold laws_heldMoments.f
  unfold Sm at h0
  exact Ev.bind (heldInt64S_ev _ _ h0 (by omega)) (Ev.neg (by omega) (Ev.now _))
theorem szMoments_yes (p : Int) (l0 : List Int) (a : Nat) (ha : a ≤ 1048576) (h : l0.length ≤ a) : laws_szMoments.f p l0 (a : Int) = some ((a - (l0.length) : Nat) : Int) := by
  unfold laws_szMoments.f
  rw [szInt64S_yes l0 (a) (by omega) (by omega), Option.bind_some, if_neg (by omega)]
theorem szMoments_no (p : Int) (l0 : List Int) (g0 : l0.length ≤ 9223372036854775807) (a : Nat) (ha : a ≤ 1048576) (h : a < l0.length) : laws_szMoments.f p l0 (a : Int) = some (-1) := by
  unfold laws_szMoments.f
  rw [szInt64S_no l0 (a) g0 (by omega) (by omega), Option.bind_some, if_pos (by omega)]
/- Primes and numbers modulo p: what the program and the reference compute of them. -/
theorem in_eq (a b c : Int) : spec_l01In.f a b c = some (decide (b ≤ a ∧ a ≤ c)) := by
  unfold spec_l01In.f
  by_cases h : b ≤ a
  · rw [if_pos h]; simp [h]
  · rw [if_neg h]; simp [h]
theorem within_eq (a b c : Int) : impl_within.f a b c = some (decide (b ≤ a ∧ a ≤ c)) := by
  unfold impl_within.f
  by_cases h : b ≤ a
  · rw [if_pos h]; simp [h]
  · rw [if_neg h]; simp [h]
theorem has_eq (p x : Int) : impl_field_has.f p x = some (decide (0 ≤ x ∧ x < p)) := by
  unfold impl_field_has.f
  by_cases h : 0 ≤ x
  · rw [if_pos h]; simp [h]
  · rw [if_neg h]; simp [h]
theorem mod_eq {p : Int} (hp : Pm p) (x : Int) : impl_field_mod.f p x = some (x % p) := by
  unfold impl_field_mod.f
  rw [if_neg hp.ne, go_mod hp]

/-! ### primes -/
def noDiv (p : Int) (i : Nat) : Prop := ∀ j, j < 101 → i ≤ j → (j : Int) * (j : Int) ≤ p → p % (j : Int) ≠ 0
instance (p : Int) (i : Nat) : Decidable (noDiv p i) := by unfold noDiv; infer_instance
def primeB (p : Int) : Bool := decide (2 ≤ p ∧ p ≤ 10007) && decide (noDiv p 2)
theorem primeB.pm {p : Int} (h : primeB p = true) : Pm p := by
  simp only [primeB, Bool.and_eq_true, decide_eq_true_eq] at h
  exact ⟨h.1.1, h.1.2⟩
theorem noDiv_succ {p : Int} {i : Nat} (h : p % (i : Int) ≠ 0) : decide (noDiv p i) = decide (noDiv p (i + 1)) := by
  apply decide_eq_decide.2
  constructor
  · exact fun g j h1 h2 h3 => g j h1 (by omega) h3
  · intro g j h1 h2 h3
    by_cases e : j = i
    · subst e; exact h
    · exact g j h1 (by omega) h3
theorem noDiv_big {p : Int} {i : Nat} (h : p < (i : Int) * (i : Int)) : noDiv p i := by
  intro j h1 h2 h3
  have := mulB (a := (i : Int)) (b := (i : Int)) (m := (j : Int)) (n := (j : Int)) (by omega) (by omega) (by omega) (by omega)
  omega
theorem sqB {i : Nat} (h : i ≤ 101) : 0 ≤ (i : Int) * (i : Int) ∧ (i : Int) * (i : Int) ≤ 10201 := by
  have := mulB (a := (i : Int)) (b := (i : Int)) (m := 101) (n := 101) (by omega) (by omega) (by omega) (by omega)
  omega
theorem specPrime_l0 {p : Int} (h2 : 2 ≤ p) (ht : p ≤ 10007) (d : Nat) : ∀ i, 2 ≤ i → i + d = 101 → Ev (fun k => spec_l01Prime.l0 k p (i : Int)) (decide (noDiv p i)) := by
  induction d with
  | zero =>
    intro i hi hd
    obtain rfl : i = 101 := by omega
    refine Ev.step (fun k => by rw [spec_l01Prime.l0]) ?_
    refine Ev.neg (by rw [wrap_id (by omega) (by omega)]; omega) (Ev.some' ?_)
    exact (decide_eq_true (noDiv_big (by omega))).symm
  | succ d ih =>
    intro i hi hd
    have hb := sqB (i := i) (by omega)
    refine Ev.step (fun k => by rw [spec_l01Prime.l0]) ?_
    rw [wrap_id (x := (i : Int) * (i : Int)) (by omega) (by omega), tmod_pos (by omega)]
    by_cases h : (i : Int) * (i : Int) ≤ p
    · refine Ev.pos h (Ev.neg (by omega) ?_)
      by_cases h3 : p % (i : Int) = 0
      · exact Ev.pos h3 (Ev.some' (decide_eq_false (fun g => g i (by omega) (by omega) h h3)).symm)
      · refine Ev.neg h3 ?_
        rw [noDiv_succ h3, wsucc (i := i) (n := 101) (by omega) (by omega)]
        exact ih (i + 1) (by omega) (by omega)
    · exact Ev.neg h (Ev.some' (decide_eq_true (noDiv_big (by omega))).symm)
theorem implPrime_l0 {p : Int} (h2 : 2 ≤ p) (ht : p ≤ 10007) (d : Nat) : ∀ i, 2 ≤ i → i + d = 101 → Ev (fun k => impl_IsPrime.l0 k p (i : Int)) (decide (noDiv p i)) := by
  induction d with
  | zero =>
    intro i hi hd
    obtain rfl : i = 101 := by omega
    refine Ev.step (fun k => by rw [impl_IsPrime.l0]) ?_
    refine Ev.neg (by rw [wrap_id (by omega) (by omega)]; omega) (Ev.some' ?_)
    exact (decide_eq_true (noDiv_big (by omega))).symm
  | succ d ih =>
    intro i hi hd
    have hb := sqB (i := i) (by omega)
    refine Ev.step (fun k => by rw [impl_IsPrime.l0]) ?_
    rw [wrap_id (x := (i : Int) * (i : Int)) (by omega) (by omega), tmod_pos (by omega)]
    by_cases h : (i : Int) * (i : Int) ≤ p
    · refine Ev.pos h (Ev.neg (by omega) ?_)
      by_cases h3 : p % (i : Int) = 0
      · exact Ev.pos h3 (Ev.some' (decide_eq_false (fun g => g i (by omega) (by omega) h h3)).symm)
      · refine Ev.neg h3 ?_
        rw [noDiv_succ h3, wsucc (i := i) (n := 101) (by omega) (by omega)]
        exact ih (i + 1) (by omega) (by omega)
    · exact Ev.neg h (Ev.some' (decide_eq_true (noDiv_big (by omega))).symm)
theorem specPrime_ev (p : Int) : Ev (fun k => spec_l01Prime.f k p) (primeB p) := by
  unfold spec_l01Prime.f primeB
  refine Ev.bindE (in_eq _ _ _) ?_
  by_cases h : 2 ≤ p ∧ p ≤ 10007
  · refine Ev.pos (decide_eq_true h) ?_
    rw [decide_eq_true h, Bool.true_and]
    exact specPrime_l0 h.1 h.2 99 2 (by omega) (by omega)
  · refine Ev.neg (by simp [h]) (Ev.some' ?_)
    rw [decide_eq_false h, Bool.false_and]
theorem implPrime_ev (p : Int) : Ev (fun k => impl_IsPrime.f k p) (primeB p) := by
  unfold impl_IsPrime.f primeB
  refine Ev.bindE (within_eq _ _ _) ?_
  by_cases h : 2 ≤ p ∧ p ≤ 10007
  · refine Ev.pos (decide_eq_true h) ?_
    rw [decide_eq_true h, Bool.true_and]
    exact implPrime_l0 h.1 h.2 99 2 (by omega) (by omega)
  · refine Ev.neg (by simp [h]) (Ev.some' ?_)
    rw [decide_eq_false h, Bool.false_and]

/-! ### numbers modulo p -/
theorem Nm_cons (p x : Int) (l : List Int) : Nm p (x :: l) ↔ (0 ≤ x ∧ x < p) ∧ Nm p l := by
  constructor
  · exact fun h => ⟨h x (List.mem_cons_self ..), fun y hy => h y (List.mem_cons_of_mem _ hy)⟩
  · exact fun h => Nm.cons h.1.1 h.1.2 h.2
theorem allO_has (p : Int) (l : List Int) : allO (fun z_ => impl_field_has.f p z_) l = some (decide (Nm p l)) := by
  induction l with
  | nil => simp only [allO]; rw [decide_eq_true (Nm.nil p)]
  | cons x l ih =>
    simp only [has_eq] at ih
    simp only [allO, has_eq, Option.bind_some]
    by_cases h : 0 ≤ x ∧ x < p
    · rw [if_pos (decide_eq_true h), ih]
      congr 1
      apply decide_eq_decide.2
      rw [Nm_cons]
      exact ⟨fun g => ⟨h, g⟩, fun g => g.2⟩
    · rw [if_neg (by simp [h])]
      congr 1
      exact (decide_eq_false (fun g => h ((Nm_cons p x l).1 g).1)).symm
theorem areAll_has (p : Int) (l : List Int) (hl : l.length < 4611686018427387904) : impl_areAll_int64.f l (fun z_ => impl_field_has.f p z_) = some (decide (Nm p l)) := by
  unfold impl_areAll_int64.f
  rw [if_pos hl, allO_has]
theorem Nm_drop {p : Int} {l : List Int} {i : Nat} (h : i < l.length) : Nm p (l.drop i) ↔ (0 ≤ l.getD i 0 ∧ l.getD i 0 < p) ∧ Nm p (l.drop (i + 1)) := by
  rw [drop_cons l 0 i h, Nm_cons]
/-! ### sums -/
def sumTo (g : Nat → Int) : Nat → Int
  | 0 => 0
  | n + 1 => sumTo g n + g n
/- Polynomials and the program's code for them; no condition. -/
/-! ### polynomials -/
def lastOk (l : List Int) : Bool := decide (l.length = 0) || (l.getD (l.length - 1) 0 != 0)
def polyB (p : Int) (l : List Int) : Bool := decide (Nm p l) && (decide (l.length ≤ 25) && lastOk l)
theorem lastPart (l : List Int) (hl : Sm l.length) :
    (if (l.length : Int) = 0 then (some true) else (if 0 ≤ (wrap64 ((l.length : Int) - 1)) then (if (wrap64 ((l.length : Int) - 1)) < (l.length : Int) then (some ((rd l (wrap64 ((l.length : Int) - 1))) != 0)) else none) else none)) = some (lastOk l) := by
  unfold lastOk
  by_cases h : l.length = 0
  · rw [if_pos (by omega)]; simp [h]
  · rw [if_neg (by omega), wpred (by omega) (by unfold Sm at hl; omega), if_pos (by omega), if_pos (by omega), rd_nat]
    simp [h]
theorem implPoly_eq (p : Int) (l : List Int) (hl : Sm l.length) : impl_IsPoly.f p l = some (polyB p l) := by
  unfold impl_IsPoly.f polyB
  by_cases h : l.length ≤ 25
  · rw [if_pos (by omega), areAll_has p l (by omega), Option.bind_some]
    by_cases hn : Nm p l
    · rw [if_pos (decide_eq_true hn), lastPart l hl]; simp [h, hn]
    · rw [if_neg (by simp [hn])]; simp [hn]
  · rw [if_neg (by omega)]; simp [h]
theorem allO_poly (p : Int) (ls : List (List Int)) (hl : ∀ l ∈ ls, Sm l.length) : allO (fun z_ => impl_polyCode_1.f z_ p) ls = some (ls.all (polyB p)) := by
  induction ls with
  | nil => rfl
  | cons l ls ih =>
    have e : impl_polyCode_1.f l p = some (polyB p l) := by
      unfold impl_polyCode_1.f
      rw [implPoly_eq p l (hl l (List.mem_cons_self ..))]; rfl
    simp only [allO, e, Option.bind_some, List.all_cons]
    by_cases h : polyB p l = true
    · rw [if_pos h, ih (fun m hm => hl m (List.mem_cons_of_mem _ hm)), h, Bool.true_and]
    · rw [if_neg h, Bool.eq_false_iff.2 h, Bool.false_and]
theorem polyCode_ev (p : Int) (b : Bool) (ls : List (List Int)) (hs : Sm ls.length) (hl : ∀ l ∈ ls, Sm l.length) :
    Ev (fun k => impl_polyCode.f k p b ls) (if ls.all (polyB p) then (if primeB p && b then 0 else 2) else 1) := by
  unfold impl_polyCode.f
  have e : impl_areAll_rows.f ls (fun z_ => impl_polyCode_1.f z_ p) = some (ls.all (polyB p)) := by
    unfold impl_areAll_rows.f
    rw [if_pos (by unfold Sm at hs; omega), allO_poly p ls hl]
  refine Ev.bindE e ?_
  by_cases h : ls.all (polyB p) = true
  · refine Ev.pos h (Ev.bind (implPrime_ev p) ?_)
    rw [if_pos h]
    cases primeB p <;> cases b <;> exact ⟨0, fun _ _ => rfl⟩
  · refine Ev.neg h (Ev.some' ?_)
    rw [if_neg h]
/- Polynomials: the reference's test; no condition. -/
theorem specPoly_l0 (p : Int) (l : List Int) (hl : Sm l.length) (d : Nat) : ∀ i, i + d = l.length → Ev (fun k => spec_l01Poly.l0 k p l (i : Int)) (decide (Nm p (l.drop i)) && (decide (l.length ≤ 25) && lastOk l)) := by
  induction d with
  | zero =>
    intro i hi
    refine Ev.step (fun k => by rw [spec_l01Poly.l0]) ?_
    refine Ev.neg (by omega) ?_
    rw [List.drop_eq_nil_of_le (by omega), decide_eq_true (Nm.nil p), Bool.true_and]
    by_cases h : l.length ≤ 25
    · refine Ev.pos (by omega) (Ev.eq ?_)
      rw [lastPart l hl]; simp [h]
    · exact Ev.neg (by omega) (Ev.some' (by simp [h]))
  | succ d ih =>
    intro i hi
    refine Ev.step (fun k => by rw [spec_l01Poly.l0]) ?_
    refine Ev.pos (by omega) (Ev.pos (by omega) ?_)
    rw [rd_nat, wsucc (i := i) (n := l.length) (by omega) (by unfold Sm at hl; omega)]
    by_cases h : l.getD i 0 < 0
    · refine Ev.pos h (Ev.some' ?_)
      rw [decide_eq_false (fun g => by have := ((Nm_drop (by omega : i < l.length)).1 g).1.1; omega), Bool.false_and]
    · refine Ev.neg h ?_
      by_cases h' : p ≤ l.getD i 0
      · refine Ev.pos h' (Ev.some' ?_)
        rw [decide_eq_false (fun g => by have := ((Nm_drop (by omega : i < l.length)).1 g).1.2; omega), Bool.false_and]
      · refine Ev.neg h' (Ev.cast (ih (i + 1) (by omega)) ?_)
        congr 1
        apply decide_eq_decide.2
        rw [Nm_drop (by omega : i < l.length)]
        exact ⟨fun g => ⟨⟨by omega, by omega⟩, g⟩, fun g => g.2⟩
theorem specPoly_ev (p : Int) (l : List Int) (hl : Sm l.length) : Ev (fun k => spec_l01Poly.f k p l) (polyB p l) := by
  unfold spec_l01Poly.f polyB
  simpa using specPoly_l0 p l hl l.length 0 (by omega)
end Go.Proofs.Ytokkabgkjhpecaa.Pr
