/- Texts of this session in one: what functions of the program compute, and plain facts of it, under the conditions that each theorem names. -/
import Derived.Test.YtnpepkpogohcmaaKionals1
import Derived.Test.YtnpepkpogohcmaaKionals2
import Derived.Test.YtnpepkpogohcmaaKionals7
namespace Go.Proofs.Ytnpepkpogohcmaa.Pr
open Go.RowKit Go.Proofs.YtnpepkpogohcmaaW.PrintWords Go.Proofs.YtnpepkpogohcmaaW.PrintLast Go.Proofs.YtnpepkpogohcmaaW.PrintMore
attribute [local go_sem] max2_int min2_int max_two min_two max_three min_three max_four min_four   -- for this text's walks alone
set_option linter.unusedVariables false
set_option linter.unusedSimpArgs false
/-! ### impl_AreMoments: function 9 -/
def impl_AreMoments.f (k : Nat) (a0_0 : Int) (l0_1 : List Int) : Option (Bool) := (impl_IsPrime.f k a0_0).bind fun t434 => (if t434 = true then ((impl_length_int64.f l0_1).bind fun t435 => ((impl_within.f t435 1 24).bind fun t436 => (if t436 = true then ((impl_Moments_field.f a0_0 l0_1).bind fun t437 => ((impl_areAll_int64.f l0_1 (fun z_ => impl_field_has.f t437 z_)).bind fun t438 => (some t438))) else (some false)))) else (some false))
def impl_AreMoments.T1 : Bool × List (List Nat × List Nat) := (true, [([], []), ([0], [0]), ([1], [1]), ([2, 2], [2]), ([3], [3]), ([4, 3], [3, 4]), ([5, 3, 3], [3, 5]), ([6, 6, 3], [3, 6]), ([3, 7], [3, 7]), ([8, 7], [8]), ([9], [9]), ([10, 9], [9, 10]), ([9], [9]), ([12, 9, 9], [9, 12]), ([13, 9], [9, 13]), ([11, 14, 13, 9], [9, 11, 14]), ([9, 15], [9, 15]), ([16, 15, 0, 1, 2, 3, 4, 5, 6, 7, 8, 9, 10, 11, 12, 13, 14, 15, 16], [16])])
def impl_AreMoments.B1 : List Nat := [0, 1, 3, 7, 15, 31, 63, 127, 255, 511, 1023, 2047, 1023, 5119, 13311, 32767, 65535, 131071]
theorem impl_AreMoments.tab1 : rtab .any (opsOf Try.f9 1) = impl_AreMoments.T1 := by kernel_rfl
theorem impl_AreMoments.bits1 : waitsOk impl_AreMoments.T1.2 impl_AreMoments.B1 = true := by kernel_rfl
set_option maxHeartbeats 8000000 in
set_option maxRecDepth 100000 in
theorem impl_AreMoments.calls (k : Nat) (a0_0 : Int) (A0_1 : Option Addr) (c0_1 : Nat) (l0_1 : List Int) (r : Bool) (w : World) (hr0_1 : Kd.C (Kd.int .i64) w A0_1 l0_1.length l0_1) (hc0_1 : l0_1.length ≤ c0_1) (h : impl_AreMoments.f k a0_0 l0_1 = some r) :
  Calls Try.prog 9 #[.agg #[.int .i64 a0_0, .slice A0_1 l0_1.length c0_1]] w fun e w' => e = .returned (.bool r) ∧ Below w.heap.size w w' := by
 have hu26 := Try.underlying26
 have hmf : ∀ (fn_ : Fn) (first_ cap_ : Array Value) (w_ : World), (Instr.makeFunc fn_ first_ cap_).run Try.prog w_ = .ok (.func fn_ first_ cap_) w_ := fun _ _ _ _ => rfl
 have HR0_1 := zA hr0_1
 have HC0_1 := zA hc0_1
 clear hr0_1 hc0_1
 have HB := zA (Below.refl w.heap.size w)
 have H : ((impl_IsPrime.f k a0_0).bind fun t434 => (if t434 = true then ((impl_length_int64.f l0_1).bind fun t435 => ((impl_within.f t435 1 24).bind fun t436 => (if t436 = true then ((impl_Moments_field.f a0_0 l0_1).bind fun t437 => ((impl_areAll_int64.f l0_1 (fun z_ => impl_field_has.f t437 z_)).bind fun t438 => (some t438))) else (some false)))) else (some false))) = some r := h
 clear h
 replace H := Option.bind_eq_some_iff.mp H
 obtain ⟨t434, A20, H⟩ := H
 replace H : (if t434 = true then ((impl_length_int64.f l0_1).bind fun t435 => ((impl_within.f t435 1 24).bind fun t436 => (if t436 = true then ((impl_Moments_field.f a0_0 l0_1).bind fun t437 => ((impl_areAll_int64.f l0_1 (fun z_ => impl_field_has.f t437 z_)).bind fun t438 => (some t438))) else (some false)))) else (some false)) = some r := H
 have A2 := zA A20
 clear A20
 by_cases c3 : t434 = true
 ·subst c3
  have H1 : ((impl_length_int64.f l0_1).bind fun t435 => ((impl_within.f t435 1 24).bind fun t436 => (if t436 = true then ((impl_Moments_field.f a0_0 l0_1).bind fun t437 => ((impl_areAll_int64.f l0_1 (fun z_ => impl_field_has.f t437 z_)).bind fun t438 => (some t438))) else (some false)))) = some r := by rw [if_pos rfl] at H; exact H
  clear H
  have H := H1
  clear H1
  replace H := Option.bind_eq_some_iff.mp H
  obtain ⟨t435, A40, H⟩ := H
  replace H : ((impl_within.f t435 1 24).bind fun t436 => (if t436 = true then ((impl_Moments_field.f a0_0 l0_1).bind fun t437 => ((impl_areAll_int64.f l0_1 (fun z_ => impl_field_has.f t437 z_)).bind fun t438 => (some t438))) else (some false))) = some r := H
  have A4 := zA A40
  clear A40
  replace H := Option.bind_eq_some_iff.mp H
  obtain ⟨t436, A50, H⟩ := H
  replace H : (if t436 = true then ((impl_Moments_field.f a0_0 l0_1).bind fun t437 => ((impl_areAll_int64.f l0_1 (fun z_ => impl_field_has.f t437 z_)).bind fun t438 => (some t438))) else (some false)) = some r := H
  have A5 := zA A50
  clear A50
  by_cases c6 : t436 = true
  ·subst c6
   have H1 : ((impl_Moments_field.f a0_0 l0_1).bind fun t437 => ((impl_areAll_int64.f l0_1 (fun z_ => impl_field_has.f t437 z_)).bind fun t438 => (some t438))) = some r := by rw [if_pos rfl] at H; exact H
   clear H
   have H := H1
   clear H1
   replace H := Option.bind_eq_some_iff.mp H
   obtain ⟨t437, A70, H⟩ := H
   replace H : ((impl_areAll_int64.f l0_1 (fun z_ => impl_field_has.f t437 z_)).bind fun t438 => (some t438)) = some r := H
   have A7 := zA A70
   clear A70
   replace H := Option.bind_eq_some_iff.mp H
   obtain ⟨t438, A80, H⟩ := H
   replace H : (some t438) = some r := H
   have A8 := zA A80
   clear A80
   obtain rfl := Option.some.inj H
   go_enter Try.func9, Try.ntmps9
   try go_wp2_with (first | ((with_reducible refine gate_dst (N := 1) rfl ?_); refine bx 1 #[.int .i64 a0_0, .slice A0_1 l0_1.length c0_1] 26 ?_; intro gb433 hg w9 hbox hb; have BK433 := zA (hbox); have GW433 := gq HB hg; have GE433 := gq HB hg; replace HB := xH HB hb; have := geI GE433; clear hb hbox hg))
   replace BK433 := zA (blk_drew BK433.out)
   replace HB := zA (below_drew1 HB.out)
   refine start_ (n := 18) (S := fun w' => w'.cell? ⟨gb433, 0, none⟩ = some (.int .i64 a0_0) ∧ w'.cell? ⟨gb433, 1, none⟩ = some (.slice A0_1 l0_1.length c0_1)) (ds := []) #[false, false, false, false, false, false, false, false, false, false, false, false, false, false, false, false, false, false] (by kernel_rfl) rfl rfl ⟨bcu BK433 0, bcu BK433 1⟩ (fun hHeld => ?_); refine with_tabW impl_AreMoments.tab1 impl_AreMoments.bits1 (fun HT_ HW_ => ?_)
   generalize w9.drew = w10 at BK433 HB hHeld ⊢
   refine pu_ 0 3 (bl 18 1) HT_ ?_
   refine ta_ 1 4 (bl 18 3) HT_ HW_ hHeld ?_
   refine on_ 2 (some 5) (bl 18 7) HT_ (fun K hK => ?_)
   refine gS Try.func36 #[.int .i64 a0_0] ?_
   with_reducible refine (impl_IsPrime.calls k a0_0 true _ A2.out).mono ?_
   rintro e w' ⟨rfl, ⟨nd, rfl⟩⟩
   refine ⟨_, rfl, ?_⟩
   refine hK.out _ _ ⟨bcu BK433 0, bcu BK433 1⟩ (fun hHeld => ?_)
   clear hK K
   refine no_ 5 ?_
   refine pu_ 3 6 (bl 18 15) HT_ ?_
   refine pu_ 4 7 (bl 18 31) HT_ ?_
   refine ta_ 5 8 (bl 18 63) HT_ HW_ hHeld ?_
   refine on_ 6 (some 9) (bl 18 127) HT_ (fun K hK => ?_)
   refine gS Try.func38 #[.slice A0_1 l0_1.length c0_1] ?_
   with_reducible refine (impl_length_int64.calls _ _ l0_1 t435 _ ?side1 ?side2 A4.out).mono ?_
   (case side1 => repeat (first | exact (Kd.C_below HR0_1.out (uH HB.out)) | (with_reducible refine Kd.C_alloc ?_ _) | (with_reducible refine Kd.C_drewN ?_ _) | (with_reducible refine Kd.C_drew ?_)))
   (case side2 => exact HC0_1.out)
   rintro e w' ⟨rfl, ⟨nd, rfl⟩⟩
   refine ⟨_, rfl, ?_⟩
   refine hK.out _ _ ⟨bcu BK433 0, bcu BK433 1⟩ (fun hHeld => ?_)
   clear hK K
   refine no_ 9 ?_
   refine on_ 7 (some 10) (bl 18 255) HT_ (fun K hK => ?_)
   refine gS Try.func37 #[.int .i64 t435, .int .i64 1, .int .i64 24] ?_
   with_reducible refine (impl_within.calls t435 1 24 true _ A5.out).mono ?_
   rintro e w' ⟨rfl, ⟨nd, rfl⟩⟩
   refine ⟨_, rfl, ?_⟩
   refine hK.out _ _ ⟨bcu BK433 0, bcu BK433 1⟩ (fun hHeld => ?_)
   clear hK K
   refine no_ 10 ?_
   refine pu_ 8 11 (bl 18 511) HT_ ?_
   refine pu_ 9 12 (bl 18 1023) HT_ ?_
   refine pu_ 10 13 (bl 18 2047) HT_ ?_
   refine ta_ 11 14 (bl 18 4095) HT_ HW_ hHeld ?_
   refine ta_ 12 15 (bl 18 8191) HT_ HW_ hHeld ?_
   refine on_ 13 (some 16) (bl 18 16383) HT_ (fun K hK => ?_)
   refine gS Try.func40 #[.agg #[.int .i64 a0_0, .slice A0_1 l0_1.length c0_1]] ?_
   with_reducible refine (impl_Moments_field.calls a0_0 _ _ l0_1 t437 _ ?side1 ?side2 A7.out).mono ?_
   (case side1 => repeat (first | exact (Kd.C_below HR0_1.out (uH HB.out)) | (with_reducible refine Kd.C_alloc ?_ _) | (with_reducible refine Kd.C_drewN ?_ _) | (with_reducible refine Kd.C_drew ?_)))
   (case side2 => exact HC0_1.out)
   rintro e w11 ⟨rfl, hb⟩
   refine ⟨_, rfl, ?_⟩
   replace BK433 := xB BK433 hb
   replace HB := xH HB hb
   (try clear hb); (try clear hb2); (try clear hk); (try clear hi)
   refine hK.out _ _ ⟨bcu BK433 0, bcu BK433 1⟩ (fun hHeld => ?_)
   clear hK K
   refine no_ 16 ?_
   refine pu_ 14 17 (bl 18 32767) HT_ ?_
   refine on_ 15 (some 18) (bl 18 65535) HT_ (fun K hK => ?_)
   refine gS Try.func39 #[.slice A0_1 l0_1.length c0_1, (.func (.func 41) #[.int .i64 t437] #[])] ?_
   with_reducible refine (impl_areAll_int64.calls _ _ l0_1 _ (fun z_ => impl_field_has.f t437 z_) t438 _ ?side1 ?side2 ?side3 A8.out).mono ?_
   (case side1 => exact uC ((Kd.C_below HR0_1.out HB.out)))
   (case side2 => exact HC0_1.out)
   (case side3 => exact FnI.of Try.func41 (by kernel_rfl) rfl (fun z_ r_ hr_ W_ hW_ => calls_of_args (args' := #[.int .i64 t437, .int .i64 z_]) (by simp) ((impl_field_has.calls t437 z_ r_ W_  hr_).mono fun e_ W2_ h_ => ⟨h_.1, h_.2.below⟩)))
   rintro e w12 ⟨rfl, hb⟩
   refine ⟨_, rfl, ?_⟩
   replace BK433 := xB BK433 hb
   replace HB := xH HB hb
   (try clear hb); (try clear hb2); (try clear hk); (try clear hi)
   refine hK.out _ _ ⟨bcu BK433 0, bcu BK433 1⟩ (fun hHeld => ?_)
   clear hK K
   refine no_ 18 ?_
   refine pu_ 16 19 (bl 18 131071) HT_ ?_
   refine pu_ 17 2 (bl 18 262143) HT_ ?_
   refine done_ (done_of HT_.out (by kernel_rfl)) ?_
   try go_wp2
   go_ret
   exact ⟨by first | rfl | (simp [errW_none, errW_some] <;> rfl) | (simp [*, errW_none, errW_some] <;> rfl), uH HB.out⟩
  ·replace c6 := Bool.eq_false_iff.mpr c6
   subst c6
   have H1 : (some false) = some r := by rw [if_neg (show ¬ (false = true) by decide)] at H; exact H
   clear H
   have H := H1
   clear H1
   obtain rfl := Option.some.inj H
   go_enter Try.func9, Try.ntmps9
   try go_wp2_with (first | ((with_reducible refine gate_dst (N := 1) rfl ?_); refine bx 1 #[.int .i64 a0_0, .slice A0_1 l0_1.length c0_1] 26 ?_; intro gb433 hg w13 hbox hb; have BK433 := zA (hbox); have GW433 := gq HB hg; have GE433 := gq HB hg; replace HB := xH HB hb; have := geI GE433; clear hb hbox hg))
   replace BK433 := zA (blk_drew BK433.out)
   replace HB := zA (below_drew1 HB.out)
   refine start_ (n := 18) (S := fun w' => w'.cell? ⟨gb433, 0, none⟩ = some (.int .i64 a0_0) ∧ w'.cell? ⟨gb433, 1, none⟩ = some (.slice A0_1 l0_1.length c0_1)) (ds := []) #[false, false, false, false, false, false, false, false, false, false, false, false, false, false, false, false, false, false] (by kernel_rfl) rfl rfl ⟨bcu BK433 0, bcu BK433 1⟩ (fun hHeld => ?_); refine with_tabW impl_AreMoments.tab1 impl_AreMoments.bits1 (fun HT_ HW_ => ?_)
   generalize w13.drew = w14 at BK433 HB hHeld ⊢
   refine pu_ 0 3 (bl 18 1) HT_ ?_
   refine ta_ 1 4 (bl 18 3) HT_ HW_ hHeld ?_
   refine on_ 2 (some 5) (bl 18 7) HT_ (fun K hK => ?_)
   refine gS Try.func36 #[.int .i64 a0_0] ?_
   with_reducible refine (impl_IsPrime.calls k a0_0 true _ A2.out).mono ?_
   rintro e w' ⟨rfl, ⟨nd, rfl⟩⟩
   refine ⟨_, rfl, ?_⟩
   refine hK.out _ _ ⟨bcu BK433 0, bcu BK433 1⟩ (fun hHeld => ?_)
   clear hK K
   refine no_ 5 ?_
   refine pu_ 3 6 (bl 18 15) HT_ ?_
   refine pu_ 4 7 (bl 18 31) HT_ ?_
   refine ta_ 5 8 (bl 18 63) HT_ HW_ hHeld ?_
   refine on_ 6 (some 9) (bl 18 127) HT_ (fun K hK => ?_)
   refine gS Try.func38 #[.slice A0_1 l0_1.length c0_1] ?_
   with_reducible refine (impl_length_int64.calls _ _ l0_1 t435 _ ?side1 ?side2 A4.out).mono ?_
   (case side1 => repeat (first | exact (Kd.C_below HR0_1.out (uH HB.out)) | (with_reducible refine Kd.C_alloc ?_ _) | (with_reducible refine Kd.C_drewN ?_ _) | (with_reducible refine Kd.C_drew ?_)))
   (case side2 => exact HC0_1.out)
   rintro e w' ⟨rfl, ⟨nd, rfl⟩⟩
   refine ⟨_, rfl, ?_⟩
   refine hK.out _ _ ⟨bcu BK433 0, bcu BK433 1⟩ (fun hHeld => ?_)
   clear hK K
   refine no_ 9 ?_
   refine on_ 7 (some 10) (bl 18 255) HT_ (fun K hK => ?_)
   refine gS Try.func37 #[.int .i64 t435, .int .i64 1, .int .i64 24] ?_
   with_reducible refine (impl_within.calls t435 1 24 false _ A5.out).mono ?_
   rintro e w' ⟨rfl, ⟨nd, rfl⟩⟩
   refine ⟨_, rfl, ?_⟩
   refine hK.out _ _ ⟨bcu BK433 0, bcu BK433 1⟩ (fun hHeld => ?_)
   clear hK K
   refine no_ 10 ?_
   refine pu_ 8 11 (bl 18 511) HT_ ?_
   refine pu_ 9 12 (bl 18 1023) HT_ ?_
   refine un_ 10 13 (bl 18 2047) HT_ ?_
   refine un_ 11 14 (bl 18 4095) HT_ ?_
   refine un_ 12 15 (bl 18 8191) HT_ ?_
   refine un_ 13 16 (bl 18 16383) HT_ ?_
   refine un_ 14 17 (bl 18 32767) HT_ ?_
   refine un_ 15 18 (bl 18 65535) HT_ ?_
   refine pu_ 16 19 (bl 18 131071) HT_ ?_
   refine pu_ 17 2 (bl 18 262143) HT_ ?_
   refine done_ (done_of HT_.out (by kernel_rfl)) ?_
   try go_wp2
   go_ret
   exact ⟨by first | rfl | (simp [errW_none, errW_some] <;> rfl) | (simp [*, errW_none, errW_some] <;> rfl), uH HB.out⟩
 ·replace c3 := Bool.eq_false_iff.mpr c3
  subst c3
  have H1 : (some false) = some r := by rw [if_neg (show ¬ (false = true) by decide)] at H; exact H
  clear H
  have H := H1
  clear H1
  obtain rfl := Option.some.inj H
  go_enter Try.func9, Try.ntmps9
  try go_wp2_with (first | ((with_reducible refine gate_dst (N := 1) rfl ?_); refine bx 1 #[.int .i64 a0_0, .slice A0_1 l0_1.length c0_1] 26 ?_; intro gb433 hg w15 hbox hb; have BK433 := zA (hbox); have GW433 := gq HB hg; have GE433 := gq HB hg; replace HB := xH HB hb; have := geI GE433; clear hb hbox hg))
  replace BK433 := zA (blk_drew BK433.out)
  replace HB := zA (below_drew1 HB.out)
  refine start_ (n := 18) (S := fun w' => w'.cell? ⟨gb433, 0, none⟩ = some (.int .i64 a0_0) ∧ w'.cell? ⟨gb433, 1, none⟩ = some (.slice A0_1 l0_1.length c0_1)) (ds := []) #[false, false, false, false, false, false, false, false, false, false, false, false, false, false, false, false, false, false] (by kernel_rfl) rfl rfl ⟨bcu BK433 0, bcu BK433 1⟩ (fun hHeld => ?_); refine with_tabW impl_AreMoments.tab1 impl_AreMoments.bits1 (fun HT_ HW_ => ?_)
  generalize w15.drew = w16 at BK433 HB hHeld ⊢
  refine pu_ 0 3 (bl 18 1) HT_ ?_
  refine ta_ 1 4 (bl 18 3) HT_ HW_ hHeld ?_
  refine on_ 2 (some 5) (bl 18 7) HT_ (fun K hK => ?_)
  refine gS Try.func36 #[.int .i64 a0_0] ?_
  with_reducible refine (impl_IsPrime.calls k a0_0 false _ A2.out).mono ?_
  rintro e w' ⟨rfl, ⟨nd, rfl⟩⟩
  refine ⟨_, rfl, ?_⟩
  refine hK.out _ _ ⟨bcu BK433 0, bcu BK433 1⟩ (fun hHeld => ?_)
  clear hK K
  refine no_ 5 ?_
  refine pu_ 3 6 (bl 18 15) HT_ ?_
  refine un_ 4 7 (bl 18 31) HT_ ?_
  refine un_ 5 8 (bl 18 63) HT_ ?_
  refine un_ 6 9 (bl 18 127) HT_ ?_
  refine un_ 7 10 (bl 18 255) HT_ ?_
  refine pu_ 8 11 (bl 18 511) HT_ ?_
  refine pu_ 9 12 (bl 18 1023) HT_ ?_
  refine un_ 10 13 (bl 18 2047) HT_ ?_
  refine un_ 11 14 (bl 18 4095) HT_ ?_
  refine un_ 12 15 (bl 18 8191) HT_ ?_
  refine un_ 13 16 (bl 18 16383) HT_ ?_
  refine un_ 14 17 (bl 18 32767) HT_ ?_
  refine un_ 15 18 (bl 18 65535) HT_ ?_
  refine pu_ 16 19 (bl 18 131071) HT_ ?_
  refine pu_ 17 2 (bl 18 262143) HT_ ?_
  refine done_ (done_of HT_.out (by kernel_rfl)) ?_
  try go_wp2
  go_ret
  exact ⟨by first | rfl | (simp [errW_none, errW_some] <;> rfl) | (simp [*, errW_none, errW_some] <;> rfl), uH HB.out⟩
/-! ### impl_IsPoly: function 81 -/
def impl_IsPoly.f (a0 : Int) (l1 : List Int) : Option (Bool) := if (l1.length : Int) ≤ 25 then ((impl_areAll_int64.f l1 (fun z_ => impl_field_has.f a0 z_)).bind fun t445 => (if t445 = true then (if (l1.length : Int) = 0 then (some true) else (if 0 ≤ (wrap64 ((l1.length : Int) - 1)) then (if (wrap64 ((l1.length : Int) - 1)) < (l1.length : Int) then (some ((rd l1 (wrap64 ((l1.length : Int) - 1))) != 0)) else (none)) else (none))) else (some false))) else (some false)
set_option maxHeartbeats 8000000 in
set_option maxRecDepth 100000 in
theorem impl_IsPoly.calls (a0 : Int) (A1 : Option Addr) (c1 : Nat) (l1 : List Int) (r : Bool) (w : World) (hr1 : Kd.C (Kd.int .i64) w A1 l1.length l1) (hc1 : l1.length ≤ c1) (h : impl_IsPoly.f a0 l1 = some r) :
  Calls Try.prog 81 #[.int .i64 a0, .slice A1 l1.length c1] w fun e w' => e = .returned (.bool r) ∧ Below w.heap.size w w' := by
 have hmf : ∀ (fn_ : Fn) (first_ cap_ : Array Value) (w_ : World), (Instr.makeFunc fn_ first_ cap_).run Try.prog w_ = .ok (.func fn_ first_ cap_) w_ := fun _ _ _ _ => rfl
 have HR1 := zA hr1
 have HC1 := zA hc1
 clear hr1 hc1
 have HB := zA (Below.refl w.heap.size w)
 have H : (if (l1.length : Int) ≤ 25 then ((impl_areAll_int64.f l1 (fun z_ => impl_field_has.f a0 z_)).bind fun t445 => (if t445 = true then (if (l1.length : Int) = 0 then (some true) else (if 0 ≤ (wrap64 ((l1.length : Int) - 1)) then (if (wrap64 ((l1.length : Int) - 1)) < (l1.length : Int) then (some ((rd l1 (wrap64 ((l1.length : Int) - 1))) != 0)) else (none)) else (none))) else (some false))) else (some false)) = some r := h
 clear h
 by_cases c3 : (l1.length : Int) ≤ 25
 rotate_left
 ·rw [if_neg c3] at H
  have c3b0 : decide ((l1.length : Int) ≤ 25) = false := decide_eq_false c3
  have c3b1 : decide (l1.length ≤ 25) = false := decide_eq_false (by omega)
  clear c3
  obtain rfl := Option.some.inj H
  go_enter Try.func81, Try.ntmps81
  go_wp2
  go_ret
  exact ⟨by first | rfl | (simp [errW_none, errW_some] <;> rfl) | (simp [*, errW_none, errW_some] <;> rfl), uH HB.out⟩

 rw [if_pos c3] at H
 have c3b0 : decide ((l1.length : Int) ≤ 25) = true := decide_eq_true c3
 have c3b1 : decide (l1.length ≤ 25) = true := decide_eq_true (by omega)
 clear c3
 replace H := Option.bind_eq_some_iff.mp H
 obtain ⟨t445, A40, H⟩ := H
 replace H : (if t445 = true then (if (l1.length : Int) = 0 then (some true) else (if 0 ≤ (wrap64 ((l1.length : Int) - 1)) then (if (wrap64 ((l1.length : Int) - 1)) < (l1.length : Int) then (some ((rd l1 (wrap64 ((l1.length : Int) - 1))) != 0)) else (none)) else (none))) else (some false)) = some r := H
 have A4 := zA A40
 clear A40
 by_cases c5 : t445 = true
 ·subst c5
  have H1 : (if (l1.length : Int) = 0 then (some true) else (if 0 ≤ (wrap64 ((l1.length : Int) - 1)) then (if (wrap64 ((l1.length : Int) - 1)) < (l1.length : Int) then (some ((rd l1 (wrap64 ((l1.length : Int) - 1))) != 0)) else (none)) else (none))) = some r := by rw [if_pos rfl] at H; exact H
  clear H
  have H := H1
  clear H1
  by_cases c6 : (l1.length : Int) = 0
  rotate_left
  ·rw [if_neg c6] at H
   have c6b0 : ((l1.length : Int) == 0) = false := beq_eq_false_iff_ne.mpr c6
   have c6b1 : ((l1.length : Int) != 0) = true := bne_iff_ne.mpr c6
   have c6b2 : ¬ (l1 = []) := fun h_ => c6 (by rw [h_]; rfl)
   obtain ⟨ji8, hji8⟩ : ∃ j_ : Int, (wrap64 ((l1.length : Int) - 1)) = j_ := ⟨_, rfl⟩
   replace H : (if 0 ≤ (ji8) then (if (ji8) < (l1.length : Int) then (some ((rd l1 (ji8)) != 0)) else (none)) else (none)) = some r := by first | (rw [hji8] at H; exact H) | (simp only [hji8] at H ⊢; exact H)
   (try rw [hji8] at A4)
   have hji8w : (IntKind.i64.wrap ((l1.length : Int) - 1)) = ji8 := (i64_w _).trans hji8
   by_cases c9 : 0 ≤ (ji8)
   rotate_left
   ·rw [if_neg c9] at H
    exact absurd H (by simp)
   rw [if_pos c9] at H
   have c9b0 : decide (0 ≤ (ji8)) = true := decide_eq_true c9
   clear c9
   by_cases c10 : (ji8) < (l1.length : Int)
   rotate_left
   ·rw [if_neg c10] at H
    exact absurd H (by simp)
   rw [if_pos c10] at H
   have c10b0 : decide ((ji8) < (l1.length : Int)) = true := decide_eq_true c10
   clear c10
   obtain rfl := Option.some.inj H
   go_enter Try.func81, Try.ntmps81
   go_wp2_with (first | (go_at_call 39; (with_reducible refine (impl_areAll_int64.calls _ _ l1 _ (fun z_ => impl_field_has.f a0 z_) true _ ?side1 ?side2 ?side3 A4.out).mono ?_); (case side1 => exact uC HR1.out); (case side2 => exact HC1.out); (case side3 => exact FnI.of Try.func41 (by kernel_rfl) rfl (fun z_ r_ hr_ W_ hW_ => calls_of_args (args' := #[.int .i64 a0, .int .i64 z_]) (by simp) ((impl_field_has.calls a0 z_ r_ W_  hr_).mono fun e_ W2_ h_ => ⟨h_.1, h_.2.below⟩))); rintro e w11 ⟨rfl, hb⟩; replace HB := xH HB hb; (try clear hb); (try clear hb2); (try clear hk); (try clear hi); have p446 : 0 ≤ ((ji8) : Int) := of_decide_eq_true (by first | (with_reducible assumption) | assumption); have q446 : (ji8) < (l1.length : Int) := of_decide_eq_true (by first | (with_reducible assumption) | assumption); obtain ⟨ad446, e446, hx446_0⟩ := Kd.at_int HR1.out (ji8) p446 q446; cases e446; replace hx446_0 := hc HB hx446_0; replace p446 := eq_true p446; replace q446 := eq_true q446))
   go_ret
   exact ⟨by first | rfl | (simp [errW_none, errW_some] <;> rfl) | (simp only [← hji8]; first | rfl | (simp [errW_none, errW_some] <;> rfl)) | (simp [*, errW_none, errW_some] <;> rfl), uH HB.out⟩
  rw [if_pos c6] at H
  have c6b0 : ((l1.length : Int) == 0) = true := beq_iff_eq.mpr c6
  have c6b1 : ((l1.length : Int) != 0) = false := bne_eq_false_iff_eq.mpr c6
  clear c6
  obtain rfl := Option.some.inj H
  go_enter Try.func81, Try.ntmps81
  go_wp2_with (first | (go_at_call 39; (with_reducible refine (impl_areAll_int64.calls _ _ l1 _ (fun z_ => impl_field_has.f a0 z_) true _ ?side1 ?side2 ?side3 A4.out).mono ?_); (case side1 => exact uC HR1.out); (case side2 => exact HC1.out); (case side3 => exact FnI.of Try.func41 (by kernel_rfl) rfl (fun z_ r_ hr_ W_ hW_ => calls_of_args (args' := #[.int .i64 a0, .int .i64 z_]) (by simp) ((impl_field_has.calls a0 z_ r_ W_  hr_).mono fun e_ W2_ h_ => ⟨h_.1, h_.2.below⟩))); rintro e w7 ⟨rfl, hb⟩; replace HB := xH HB hb; (try clear hb); (try clear hb2); (try clear hk); (try clear hi)))
  go_ret
  exact ⟨by first | rfl | (simp [errW_none, errW_some] <;> rfl) | (simp [*, errW_none, errW_some] <;> rfl), uH HB.out⟩
 ·replace c5 := Bool.eq_false_iff.mpr c5
  subst c5
  have H1 : (some false) = some r := by rw [if_neg (show ¬ (false = true) by decide)] at H; exact H
  clear H
  have H := H1
  clear H1
  obtain rfl := Option.some.inj H
  go_enter Try.func81, Try.ntmps81
  go_wp2_with (first | (go_at_call 39; (with_reducible refine (impl_areAll_int64.calls _ _ l1 _ (fun z_ => impl_field_has.f a0 z_) false _ ?side1 ?side2 ?side3 A4.out).mono ?_); (case side1 => exact uC HR1.out); (case side2 => exact HC1.out); (case side3 => exact FnI.of Try.func41 (by kernel_rfl) rfl (fun z_ r_ hr_ W_ hW_ => calls_of_args (args' := #[.int .i64 a0, .int .i64 z_]) (by simp) ((impl_field_has.calls a0 z_ r_ W_  hr_).mono fun e_ W2_ h_ => ⟨h_.1, h_.2.below⟩))); rintro e w12 ⟨rfl, hb⟩; replace HB := xH HB hb; (try clear hb); (try clear hb2); (try clear hk); (try clear hi)))
  go_ret
  exact ⟨by first | rfl | (simp [errW_none, errW_some] <;> rfl) | (simp [*, errW_none, errW_some] <;> rfl), uH HB.out⟩
/-! ### impl_polyCode_1: function 80 -/
def impl_polyCode_1.f (l0 : List Int) (a1_0 : Int) : Option (Bool) := (impl_IsPoly.f a1_0 l0).bind fun t447 => (some t447)
set_option maxHeartbeats 8000000 in
set_option maxRecDepth 100000 in
theorem impl_polyCode_1.calls (A0 : Option Addr) (c0 : Nat) (l0 : List Int) (gc1 : Nat) (a1_0 : Int) (r : Bool) (w : World) (hr0 : Kd.C (Kd.int .i64) w A0 l0.length l0) (hc0 : l0.length ≤ c0) (hb1 : w.heap[gc1]? = some (.cells #[.int .i64 a1_0] 2 (0, 0))) (h : impl_polyCode_1.f l0 a1_0 = some r) :
  Calls Try.prog 80 #[.slice A0 l0.length c0, .pointer (some ⟨gc1, 0, none⟩)] w fun e w' => e = .returned (.bool r) ∧ Below w.heap.size w w' := by
 have HR0 := zA hr0
 have HC0 := zA hc0
 clear hr0 hc0
 have BK1 := zA hb1
 clear hb1
 have HB := zA (Below.refl w.heap.size w)
 have H : ((impl_IsPoly.f a1_0 l0).bind fun t447 => (some t447)) = some r := h
 clear h
 replace H := Option.bind_eq_some_iff.mp H
 obtain ⟨t447, A30, H⟩ := H
 replace H : (some t447) = some r := H
 have A3 := zA A30
 clear A30
 obtain rfl := Option.some.inj H
 have hcz4_0 := bc BK1 0
 have hfz4_0 := bf BK1 0
 go_enter Try.func80, Try.ntmps80
 go_wp2_with (first | ((with_reducible refine gate_callee (f := 81) rfl ?_); refine gL (some 6) Try.func81 #[.int .i64 a1_0, .slice A0 l0.length c0] ?_; (with_reducible refine (impl_IsPoly.calls a1_0 _ _ l0 t447 _ ?side1 ?side2 A3.out).mono ?_); (case side1 => exact uC HR0.out); (case side2 => exact HC0.out); rintro e w5 ⟨rfl, hb⟩; refine ⟨_, rfl, ?_⟩; replace BK1 := xB BK1 hb; replace HB := xH HB hb; (try clear hb); (try clear hb2); (try clear hk); (try clear hi)))
 go_ret
 exact ⟨by first | rfl | (simp [errW_none, errW_some] <;> rfl) | (simp [*, errW_none, errW_some] <;> rfl), uH HB.out⟩
/- Lists of lists all of whose elements answer yes: what areAll computes. -/
def impl_areAll_rows.f (l : List (List Int)) (p : List Int → Option Bool) : Option Bool := if l.length < 4611686018427387904 then allO p l else none
theorem indexFunc_rows (p : List Int → Option Bool) (l : List (List Int)) (hl : l.length < 4611686018427387904) (d : Nat) : ∀ (k i : Nat) (r : Bool), i + d = l.length → d < k → allO p (l.drop i) = some r →
    ∃ j, slices_IndexFunc_rows.l0 k l (fun z_ => impl_areAll_rows_1.f z_ p) (l.length : Int) (i : Int) = some j ∧ decide (j ≥ 0) = !r := by
  induction d with
  | zero =>
    intro k i r hi hk h
    obtain ⟨k, rfl⟩ : ∃ m, k = m + 1 := ⟨k - 1, by omega⟩
    simp only [slices_IndexFunc_rows.l0]
    rw [if_neg (by omega)]
    rw [List.drop_eq_nil_of_le (by omega)] at h
    simp only [allO, Option.some.injEq] at h
    subst h
    exact ⟨-1, rfl, rfl⟩
  | succ d ih =>
    intro k i r hi hk h
    obtain ⟨k, rfl⟩ : ∃ m, k = m + 1 := ⟨k - 1, by omega⟩
    simp only [slices_IndexFunc_rows.l0]
    rw [if_pos (by omega), if_pos (by omega), if_pos (by omega)]
    rw [drop_cons l [] i (by omega)] at h
    simp only [allO] at h
    have e : rd_L3 l (i : Int) = l.getD i [] := by simp [rd_L3]
    rw [e]
    obtain ⟨b, hb, h⟩ := Option.bind_eq_some_iff.mp h
    simp only [impl_areAll_rows_1.f, hb, Option.bind_some]
    cases b with
    | true =>
      rw [if_pos rfl] at h
      simp only [Bool.not_true, Bool.false_eq_true, if_false]
      rw [wrap_succ (n := l.length) (by omega) (by omega) hl]
      exact ih k (i + 1) r (by omega) (by omega) h
    | false =>
      simp only [Bool.false_eq_true, if_false, Option.some.injEq] at h
      subst h
      simp only [Bool.not_false, if_true]
      exact ⟨i, rfl, by simp⟩

theorem areAllK_rows {l : List (List Int)} {p : List Int → Option Bool} {r : Bool} (h : impl_areAll_rows.f l p = some r) : impl_areAll_rowsK.f (l.length + 1) l p = some r := by
  unfold impl_areAll_rows.f at h
  split at h
  · rename_i hl
    obtain ⟨j, h1, h2⟩ := indexFunc_rows p l hl l.length (l.length + 1) 0 r (by omega) (by omega) (by simpa using h)
    unfold impl_areAll_rowsK.f slices_ContainsFunc_rows.f slices_IndexFunc_rows.f
    have h1' : slices_IndexFunc_rows.l0 (l.length + 1) l (fun z_ => impl_areAll_rows_1.f z_ p) (l.length : Int) 0 = some j := h1
    rw [h1']
    simp only [Option.bind_some, h2, Bool.not_not]
  · cases h

theorem impl_areAll_rows.calls (A0 : Option Addr) (c0 : Nat) (l0 : List (List Int)) (F1 : Value) (a1 : (List Int → Option Bool)) (r : Bool) (w : World) (hr0 : Kd.C (Kd.slice 2 (Kd.int .i64)) w A0 l0.length l0) (hc0 : l0.length ≤ c0) (hF1 : FnL Try.prog w F1 a1) (h : impl_areAll_rows.f l0 a1 = some r) :
    Calls Try.prog 79 #[.slice A0 l0.length c0, F1] w fun e w' => e = .returned (.bool r) ∧ Below w.heap.size w w' :=
  impl_areAll_rowsK.calls _ A0 c0 l0 F1 a1 r w hr0 hc0 hF1 (areAllK_rows h)
/-! ### impl_polyCode: function 54 -/
def impl_polyCode.f (k : Nat) (a0 : Int) (a1 : Bool) (l2 : List (List Int)) : Option (Int) := (impl_areAll_rows.f l2 (fun z_ => impl_polyCode_1.f z_ a0)).bind fun t449 => (if t449 = true then ((impl_IsPrime.f k a0).bind fun t450 => (if t450 = true then (if a1 = true then (some 0) else (some 2)) else (some 2))) else (some 1))
set_option maxHeartbeats 8000000 in
set_option maxRecDepth 100000 in
theorem impl_polyCode.calls (k : Nat) (a0 : Int) (F1 : Value) (a1 : Bool) (A2 : Option Addr) (c2 : Nat) (l2 : List (List Int)) (r : Int) (w : World) (hF1 : FnB Try.prog w F1 a1) (hr2 : Kd.C (Kd.slice 2 (Kd.int .i64)) w A2 l2.length l2) (hc2 : l2.length ≤ c2) (h : impl_polyCode.f k a0 a1 l2 = some r) :
  Calls Try.prog 54 #[.int .i64 a0, F1, .slice A2 l2.length c2] w fun e w' => e = .returned (.int .i64 r) ∧ Below w.heap.size w w' := by
 have hmf : ∀ (fn_ : Fn) (first_ cap_ : Array Value) (w_ : World), (Instr.makeFunc fn_ first_ cap_).run Try.prog w_ = .ok (.func fn_ first_ cap_) w_ := fun _ _ _ _ => rfl
 obtain ⟨G1, fi1, ca1, rfl, hen1, hF1⟩ := hF1
 have hen1 : ∀ (args_ : Array Value) (w_ : World), (callFunc G1 args_).run Try.prog w_ = .ok (.enter G1 args_) w_ := hen1
 have HF1 := zA hF1
 clear hF1
 have HR2 := zA hr2
 have HC2 := zA hc2
 clear hr2 hc2
 have HB := zA (Below.refl w.heap.size w)
 have H : ((impl_areAll_rows.f l2 (fun z_ => impl_polyCode_1.f z_ a0)).bind fun t449 => (if t449 = true then ((impl_IsPrime.f k a0).bind fun t450 => (if t450 = true then (if a1 = true then (some 0) else (some 2)) else (some 2))) else (some 1))) = some r := h
 clear h
 replace H := Option.bind_eq_some_iff.mp H
 obtain ⟨t449, A40, H⟩ := H
 replace H : (if t449 = true then ((impl_IsPrime.f k a0).bind fun t450 => (if t450 = true then (if a1 = true then (some 0) else (some 2)) else (some 2))) else (some 1)) = some r := H
 have A4 := zA A40
 clear A40
 by_cases c5 : t449 = true
 ·subst c5
  have H1 : ((impl_IsPrime.f k a0).bind fun t450 => (if t450 = true then (if a1 = true then (some 0) else (some 2)) else (some 2))) = some r := by rw [if_pos rfl] at H; exact H
  clear H
  have H := H1
  clear H1
  replace H := Option.bind_eq_some_iff.mp H
  obtain ⟨t450, A60, H⟩ := H
  replace H : (if t450 = true then (if a1 = true then (some 0) else (some 2)) else (some 2)) = some r := H
  have A6 := zA A60
  clear A60
  by_cases c7 : t450 = true
  ·subst c7
   have H1 : (if a1 = true then (some 0) else (some 2)) = some r := by rw [if_pos rfl] at H; exact H
   clear H
   have H := H1
   clear H1
   by_cases c8 : a1 = true
   ·subst c8
    have H1 : (some 0) = some r := by rw [if_pos rfl] at H; exact H
    clear H
    have H := H1
    clear H1
    obtain rfl := Option.some.inj H
    go_enter Try.func54, Try.ntmps54
    go_wp2_with (first | ((with_reducible refine gate_dst (N := 3) rfl ?_); refine bx 3 #[.int .i64 a0] 2 ?_; intro gb448 hg w9 hbox hb; have BK448 := zA (hbox); have GW448 := gq HB hg; have GE448 := gq HB hg; replace HB := xH HB hb; have := geI GE448; clear hb hbox hg) | ((with_reducible refine gate_callee (f := 79) rfl ?_); refine gL (some 10) Try.func79 #[.slice A2 l2.length c2, (.func (.func 80) #[] #[.pointer (some ⟨gb448, 0, none⟩)])] ?_; (with_reducible refine (impl_areAll_rows.calls _ _ l2 _ (fun z_ => impl_polyCode_1.f z_ a0) true _ ?side1 ?side2 ?side3 A4.out).mono ?_); (case side1 => exact uC ((Kd.C_below HR2.out HB.out))); (case side2 => exact HC2.out); (case side3 => exact FnL.of Try.func80 (by kernel_rfl) rfl (fun z_ r_ A_ c_ hr_ W_ hW_ hC_ hc_ => calls_of_args (args' := #[.slice A_ z_.length c_, .pointer (some ⟨gb448, 0, none⟩)]) (by simp) ((impl_polyCode_1.calls A_ c_ z_ _ a0 r_ W_ hC_ hc_ (blk_below (g := gb448) (o := .cells #[.int .i64 a0] 2 (0, 0)) (uB BK448.out) hW_) hr_).mono fun e_ W2_ h_ => ⟨h_.1, h_.2⟩))); rintro e w10 ⟨rfl, hb⟩; refine ⟨_, rfl, ?_⟩; replace BK448 := xB BK448 hb; replace HB := xH HB hb; (try clear hb); (try clear hb2); (try clear hk); (try clear hi); have hcz11_0 := bc BK448 0; have hfz11_0 := bf BK448 0) | ((with_reducible refine gate_callee (f := 36) rfl ?_); refine gL (some 14) Try.func36 #[.int .i64 a0] ?_; (with_reducible refine (impl_IsPrime.calls k a0 true _ A6.out).mono ?_); rintro e w' ⟨rfl, ⟨nd, rfl⟩⟩; refine ⟨_, rfl, ?_⟩) | (go_at_fn G1; refine calls_of_args (args' := fi1 ++ ca1) (by simp) ?_; refine (HF1.out _ (uH HB.out)).mono ?_; rintro e w12 ⟨rfl, hb⟩; replace BK448 := xB BK448 hb; replace HB := xH HB hb; (try clear hb)))
    go_ret
    exact ⟨by first | rfl | (simp [errW_none, errW_some] <;> rfl) | (simp [*, errW_none, errW_some] <;> rfl), uH HB.out⟩
   ·replace c8 := Bool.eq_false_iff.mpr c8
    subst c8
    have H1 : (some 2) = some r := by rw [if_neg (show ¬ (false = true) by decide)] at H; exact H
    clear H
    have H := H1
    clear H1
    obtain rfl := Option.some.inj H
    go_enter Try.func54, Try.ntmps54
    go_wp2_with (first | ((with_reducible refine gate_dst (N := 3) rfl ?_); refine bx 3 #[.int .i64 a0] 2 ?_; intro gb448 hg w13 hbox hb; have BK448 := zA (hbox); have GW448 := gq HB hg; have GE448 := gq HB hg; replace HB := xH HB hb; have := geI GE448; clear hb hbox hg) | ((with_reducible refine gate_callee (f := 79) rfl ?_); refine gL (some 10) Try.func79 #[.slice A2 l2.length c2, (.func (.func 80) #[] #[.pointer (some ⟨gb448, 0, none⟩)])] ?_; (with_reducible refine (impl_areAll_rows.calls _ _ l2 _ (fun z_ => impl_polyCode_1.f z_ a0) true _ ?side1 ?side2 ?side3 A4.out).mono ?_); (case side1 => exact uC ((Kd.C_below HR2.out HB.out))); (case side2 => exact HC2.out); (case side3 => exact FnL.of Try.func80 (by kernel_rfl) rfl (fun z_ r_ A_ c_ hr_ W_ hW_ hC_ hc_ => calls_of_args (args' := #[.slice A_ z_.length c_, .pointer (some ⟨gb448, 0, none⟩)]) (by simp) ((impl_polyCode_1.calls A_ c_ z_ _ a0 r_ W_ hC_ hc_ (blk_below (g := gb448) (o := .cells #[.int .i64 a0] 2 (0, 0)) (uB BK448.out) hW_) hr_).mono fun e_ W2_ h_ => ⟨h_.1, h_.2⟩))); rintro e w14 ⟨rfl, hb⟩; refine ⟨_, rfl, ?_⟩; replace BK448 := xB BK448 hb; replace HB := xH HB hb; (try clear hb); (try clear hb2); (try clear hk); (try clear hi); have hcz15_0 := bc BK448 0; have hfz15_0 := bf BK448 0) | ((with_reducible refine gate_callee (f := 36) rfl ?_); refine gL (some 14) Try.func36 #[.int .i64 a0] ?_; (with_reducible refine (impl_IsPrime.calls k a0 true _ A6.out).mono ?_); rintro e w' ⟨rfl, ⟨nd, rfl⟩⟩; refine ⟨_, rfl, ?_⟩) | (go_at_fn G1; refine calls_of_args (args' := fi1 ++ ca1) (by simp) ?_; refine (HF1.out _ (uH HB.out)).mono ?_; rintro e w16 ⟨rfl, hb⟩; replace BK448 := xB BK448 hb; replace HB := xH HB hb; (try clear hb)))
    go_ret
    exact ⟨by first | rfl | (simp [errW_none, errW_some] <;> rfl) | (simp [*, errW_none, errW_some] <;> rfl), uH HB.out⟩
  ·replace c7 := Bool.eq_false_iff.mpr c7
   subst c7
   have H1 : (some 2) = some r := by rw [if_neg (show ¬ (false = true) by decide)] at H; exact H
   clear H
   have H := H1
   clear H1
   obtain rfl := Option.some.inj H
   go_enter Try.func54, Try.ntmps54
   go_wp2_with (first | ((with_reducible refine gate_dst (N := 3) rfl ?_); refine bx 3 #[.int .i64 a0] 2 ?_; intro gb448 hg w17 hbox hb; have BK448 := zA (hbox); have GW448 := gq HB hg; have GE448 := gq HB hg; replace HB := xH HB hb; have := geI GE448; clear hb hbox hg) | ((with_reducible refine gate_callee (f := 79) rfl ?_); refine gL (some 10) Try.func79 #[.slice A2 l2.length c2, (.func (.func 80) #[] #[.pointer (some ⟨gb448, 0, none⟩)])] ?_; (with_reducible refine (impl_areAll_rows.calls _ _ l2 _ (fun z_ => impl_polyCode_1.f z_ a0) true _ ?side1 ?side2 ?side3 A4.out).mono ?_); (case side1 => exact uC ((Kd.C_below HR2.out HB.out))); (case side2 => exact HC2.out); (case side3 => exact FnL.of Try.func80 (by kernel_rfl) rfl (fun z_ r_ A_ c_ hr_ W_ hW_ hC_ hc_ => calls_of_args (args' := #[.slice A_ z_.length c_, .pointer (some ⟨gb448, 0, none⟩)]) (by simp) ((impl_polyCode_1.calls A_ c_ z_ _ a0 r_ W_ hC_ hc_ (blk_below (g := gb448) (o := .cells #[.int .i64 a0] 2 (0, 0)) (uB BK448.out) hW_) hr_).mono fun e_ W2_ h_ => ⟨h_.1, h_.2⟩))); rintro e w18 ⟨rfl, hb⟩; refine ⟨_, rfl, ?_⟩; replace BK448 := xB BK448 hb; replace HB := xH HB hb; (try clear hb); (try clear hb2); (try clear hk); (try clear hi); have hcz19_0 := bc BK448 0; have hfz19_0 := bf BK448 0) | ((with_reducible refine gate_callee (f := 36) rfl ?_); refine gL (some 14) Try.func36 #[.int .i64 a0] ?_; (with_reducible refine (impl_IsPrime.calls k a0 false _ A6.out).mono ?_); rintro e w' ⟨rfl, ⟨nd, rfl⟩⟩; refine ⟨_, rfl, ?_⟩))
   go_ret
   exact ⟨by first | rfl | (simp [errW_none, errW_some] <;> rfl) | (simp [*, errW_none, errW_some] <;> rfl), uH HB.out⟩
 ·replace c5 := Bool.eq_false_iff.mpr c5
  subst c5
  have H1 : (some 1) = some r := by rw [if_neg (show ¬ (false = true) by decide)] at H; exact H
  clear H
  have H := H1
  clear H1
  obtain rfl := Option.some.inj H
  go_enter Try.func54, Try.ntmps54
  go_wp2_with (first | ((with_reducible refine gate_dst (N := 3) rfl ?_); refine bx 3 #[.int .i64 a0] 2 ?_; intro gb448 hg w20 hbox hb; have BK448 := zA (hbox); have GW448 := gq HB hg; have GE448 := gq HB hg; replace HB := xH HB hb; have := geI GE448; clear hb hbox hg) | ((with_reducible refine gate_callee (f := 79) rfl ?_); refine gL (some 10) Try.func79 #[.slice A2 l2.length c2, (.func (.func 80) #[] #[.pointer (some ⟨gb448, 0, none⟩)])] ?_; (with_reducible refine (impl_areAll_rows.calls _ _ l2 _ (fun z_ => impl_polyCode_1.f z_ a0) false _ ?side1 ?side2 ?side3 A4.out).mono ?_); (case side1 => exact uC ((Kd.C_below HR2.out HB.out))); (case side2 => exact HC2.out); (case side3 => exact FnL.of Try.func80 (by kernel_rfl) rfl (fun z_ r_ A_ c_ hr_ W_ hW_ hC_ hc_ => calls_of_args (args' := #[.slice A_ z_.length c_, .pointer (some ⟨gb448, 0, none⟩)]) (by simp) ((impl_polyCode_1.calls A_ c_ z_ _ a0 r_ W_ hC_ hc_ (blk_below (g := gb448) (o := .cells #[.int .i64 a0] 2 (0, 0)) (uB BK448.out) hW_) hr_).mono fun e_ W2_ h_ => ⟨h_.1, h_.2⟩))); rintro e w21 ⟨rfl, hb⟩; refine ⟨_, rfl, ?_⟩; replace BK448 := xB BK448 hb; replace HB := xH HB hb; (try clear hb); (try clear hb2); (try clear hk); (try clear hi)))
  go_ret
  exact ⟨by first | rfl | (simp [errW_none, errW_some] <;> rfl) | (simp [*, errW_none, errW_some] <;> rfl), uH HB.out⟩
/-! ### impl_AddPolys: function 21 -/
def impl_AddPolys.f (k : Nat) (a0 : Int) (l1 : List Int) (l2 : List Int) (a3 : Int) : Option (List Int × Int) := (impl_AddPolys_1.f a0 a3).bind fun t625 => ((impl_polyCode.f k a0 t625 (([l1, l2] : List (List Int)))).bind fun t629 => (if t629 = 0 then ((impl_field_add.f k a0 l1 l2 a3).bind fun t630 => (some (t630, 0))) else (some (([] : List Int), t629))))
set_option maxHeartbeats 8000000 in
set_option maxRecDepth 100000 in
theorem impl_AddPolys.calls (k : Nat) (a0 : Int) (P1_ : Nat → Prop) (A1 : Option Addr) (c1 : Nat) (l1 : List Int) (P2_ : Nat → Prop) (A2 : Option Addr) (c2 : Nat) (l2 : List Int) (a3 : Int) (r1 : List Int) (r2 : Int) (w : World) (hs1 : Kd.V (Kd.int .i64) 2 w w.heap.size (fun k_ => P1_ k_) (.slice A1 l1.length c1) l1) (hs2 : Kd.V (Kd.int .i64) 2 w w.heap.size (fun k_ => P2_ k_) (.slice A2 l2.length c2) l2) (h : impl_AddPolys.f k a0 l1 l2 a3 = some (r1, r2)) :
  Calls Try.prog 21 #[.int .i64 a0, .slice A1 l1.length c1, .slice A2 l2.length c2, .int .i64 a3] w fun e w' => ∃ v0_ : Value, e = .returned (.tuple #[v0_, .int .i64 r2]) ∧ Kd.R (Kd.int .i64) 2 w' w.heap.size (fun k_ => (w.heap.size ≤ k_)) v0_ r1 ∧ Below w.heap.size w w' := by
 have hmf : ∀ (fn_ : Fn) (first_ cap_ : Array Value) (w_ : World), (Instr.makeFunc fn_ first_ cap_).run Try.prog w_ = .ok (.func fn_ first_ cap_) w_ := fun _ _ _ _ => rfl
 have HO1 := zA (show Kd.V (Kd.int .i64) 2 w w.heap.size (fun k_ => ((P1_ k_ ∨ P2_ k_) ∨ w.heap.size ≤ k_)) (.slice A1 l1.length c1) l1 from Kd.V_mono hs1 (fun k_ hk => .inl (.inl hk)))
 have HO2 := zA (show Kd.V (Kd.int .i64) 2 w w.heap.size (fun k_ => ((P1_ k_ ∨ P2_ k_) ∨ w.heap.size ≤ k_)) (.slice A2 l2.length c2) l2 from Kd.V_mono hs2 (fun k_ hk => .inl (.inr hk)))
 have HB := zA (Below.refl w.heap.size w)
 have H : ((impl_AddPolys_1.f a0 a3).bind fun t625 => ((impl_polyCode.f k a0 t625 (([l1, l2] : List (List Int)))).bind fun t629 => (if t629 = 0 then ((impl_field_add.f k a0 l1 l2 a3).bind fun t630 => (some (t630, 0))) else (some (([] : List Int), t629))))) = some (r1, r2) := h
 clear h
 replace H := Option.bind_eq_some_iff.mp H
 obtain ⟨t625, A50, H⟩ := H
 replace H : ((impl_polyCode.f k a0 t625 (([l1, l2] : List (List Int)))).bind fun t629 => (if t629 = 0 then ((impl_field_add.f k a0 l1 l2 a3).bind fun t630 => (some (t630, 0))) else (some (([] : List Int), t629)))) = some (r1, r2) := H
 have A5 := zA A50
 clear A50
 obtain ⟨y626, hy626⟩ : ∃ y_ : List (List Int), y_ = (([l1, l2] : List (List Int))) := ⟨_, rfl⟩
 replace H : ((impl_polyCode.f k a0 t625 y626).bind fun t629 => (if t629 = 0 then ((impl_field_add.f k a0 l1 l2 a3).bind fun t630 => (some (t630, 0))) else (some (([] : List Int), t629)))) = some (r1, r2) := by first | (rw [hy626]; exact H) | exact H
 have Ny626 := zA hy626
 clear hy626
 replace H := Option.bind_eq_some_iff.mp H
 obtain ⟨t629, A60, H⟩ := H
 replace H : (if t629 = 0 then ((impl_field_add.f k a0 l1 l2 a3).bind fun t630 => (some (t630, 0))) else (some (([] : List Int), t629))) = some (r1, r2) := H
 have A6 := zA A60
 clear A60
 by_cases c7 : t629 = 0
 rotate_left
 ·rw [if_neg c7] at H
  have c7b0 : (t629 == 0) = false := beq_eq_false_iff_ne.mpr c7
  have c7b1 : (t629 != 0) = true := bne_iff_ne.mpr c7
  simp only [Option.some.injEq, Prod.mk.injEq] at H
  obtain ⟨rfl, rfl⟩ := H
  go_enter Try.func21, Try.ntmps21
  go_wp2_with (first | ((with_reducible refine gate_dst (N := 4) rfl ?_); refine bx 4 #[.int .i64 a0] 2 ?_; intro gb623 hg w20 hbox hb; replace HO1 := zA (Kd.V_below (Kd.V_elderB (by (with_reducible repeat (first | apply Kd.V_alloc | apply Kd.V_drewN | apply Kd.V_drew)); exact HO1.out) gb623 (Nat.le_of_eq hg.symm)) hb); replace HO2 := zA (Kd.V_below (Kd.V_elderB (by (with_reducible repeat (first | apply Kd.V_alloc | apply Kd.V_drewN | apply Kd.V_drew)); exact HO2.out) gb623 (Nat.le_of_eq hg.symm)) hb); have BK623 := zA (hbox); have GW623 := gq HB hg; have GE623 := gq HB hg; replace HB := xH HB hb; have := geI GE623; clear hb hbox hg) | ((with_reducible refine gate_dst (N := 7) rfl ?_); refine bx 7 #[.int .i64 a3] 2 ?_; intro gb624 hg w21 hbox hb; replace HO1 := zA (Kd.V_below (Kd.V_elderB (by (with_reducible repeat (first | apply Kd.V_alloc | apply Kd.V_drewN | apply Kd.V_drew)); exact HO1.out) gb624 (Nat.le_of_eq hg.symm)) hb); replace HO2 := zA (Kd.V_below (Kd.V_elderB (by (with_reducible repeat (first | apply Kd.V_alloc | apply Kd.V_drewN | apply Kd.V_drew)); exact HO2.out) gb624 (Nat.le_of_eq hg.symm)) hb); have BK624 := zA (hbox); have GW624 := gq HB hg; have GE624 := gq HB hg; replace HB := xH HB hb; have NB623_624 := zA ((by rw [hg]; exact neL BK623 : gb623 ≠ gb624)); have NB624_623 := zA ((by rw [hg]; exact neG BK623 : gb624 ≠ gb623)); replace BK623 := xB BK623 hb; have := geI GE624; clear hb hbox hg; have hnb22 := NB623_624.out; have hnc22 := NB624_623.out; have hcz23_0 := bc BK623 0; have hfz23_0 := bf BK623 0) | ((with_reducible refine gate_dst (N := 15) rfl ?_); refine Kd.N_lit (Kd.slice 2 (Kd.int .i64)) _ 24 ?hg (N' := 15) ?hd (xs := ([l1, l2] : List (List Int))) (inner := [.slice A1 l1.length c1, .slice A2 l2.length c2]) (ok := (fun k_ => ((P1_ k_ ∨ P2_ k_) ∨ w.heap.size ≤ k_) ∧ k_ ≠ gb623 ∧ k_ ≠ gb624)) (okp := (fun k_ => ((P1_ k_ ∨ P2_ k_) ∨ w.heap.size ≤ k_) ∧ k_ ≠ gb623 ∧ k_ ≠ gb624)) ?hr ?hp (fun _ hk => hk) ((show ∀ k_, w21.heap.size ≤ k_ → (fun k_ => ((P1_ k_ ∨ P2_ k_) ∨ w.heap.size ≤ k_) ∧ k_ ≠ gb623 ∧ k_ ≠ gb624) k_ from fun k_ hk => ⟨(.inr (Nat.le_trans (below_size (uH HB.out)) hk)), Kd.freshB (g := gb623) (o := .cells #[.int .i64 a0] 2 (0, 0)) (uB BK623.out) k_ hk, Kd.freshB (g := gb624) (o := .cells #[.int .i64 a3] 2 (0, 0)) (uB BK624.out) k_ hk⟩) _ (Nat.le_refl _)) (Below.refl _ _) (Nat.le_refl _) (by simp) ?_; (case hd => rfl); (case hg => rfl); (case hr => first | (go_simp; done) | (go_simp; rfl)); (case hp => exact (Reps.one (show Kd.FK (Kd.slice 2 (Kd.int .i64)) _ _ l1 [.slice A1 l1.length c1] from (Kd.FK_slice_mk (Kd.V_reads' (Kd.V_mono (ok' := (fun k_ => ((P1_ k_ ∨ P2_ k_) ∨ w.heap.size ≤ k_) ∧ k_ ≠ gb623 ∧ k_ ≠ gb624)) (HO1.out) (fun k_ hk => ⟨hk.1.1, ⟨hk.1.2, hk.2⟩⟩))).2.1 (Kd.V_F (Kd.V_mono (ok' := (fun k_ => ((P1_ k_ ∨ P2_ k_) ∨ w.heap.size ≤ k_) ∧ k_ ≠ gb623 ∧ k_ ≠ gb624)) (HO1.out) (fun k_ hk => ⟨hk.1.1, ⟨hk.1.2, hk.2⟩⟩))))) (Reps.one (show Kd.FK (Kd.slice 2 (Kd.int .i64)) _ _ l2 [.slice A2 l2.length c2] from (Kd.FK_slice_mk (Kd.V_reads' (Kd.V_mono (ok' := (fun k_ => ((P1_ k_ ∨ P2_ k_) ∨ w.heap.size ≤ k_) ∧ k_ ≠ gb623 ∧ k_ ≠ gb624)) (HO2.out) (fun k_ hk => ⟨hk.1.1, ⟨hk.1.2, hk.2⟩⟩))).2.1 (Kd.V_F (Kd.V_mono (ok' := (fun k_ => ((P1_ k_ ∨ P2_ k_) ∨ w.heap.size ≤ k_) ∧ k_ ≠ gb623 ∧ k_ ≠ gb624)) (HO2.out) (fun k_ hk => ⟨hk.1.1, ⟨hk.1.2, hk.2⟩⟩))))) (Reps.none _ _)))); intro v627 w24 ho25 hb hg_ hnew_; clear hg_ hnew_; (first | rw [← Ny626.out] at ho25 | (simp only [Int.reduceToNat] at ho25; rw [← Ny626.out] at ho25)); replace HO1 := zA (Kd.V_elder' (by (with_reducible repeat (first | apply Kd.V_alloc | apply Kd.V_drewN | apply Kd.V_drew)); exact HO1.out) (Kd.N_base ho25) hb); replace HO2 := zA (Kd.V_elder' (by (with_reducible repeat (first | apply Kd.V_alloc | apply Kd.V_drewN | apply Kd.V_drew)); exact HO2.out) (Kd.N_base ho25) hb); have HO628 := zA (Kd.N_lower ho25 (below_size (uH HB.out))); replace BK623 := xB BK623 hb; replace BK624 := xB BK624 hb; replace HB := xH HB hb; clear hb ho25; obtain ⟨Ao26, co26, eo26⟩ := Kd.N_slice HO628.out; subst eo26) | ((with_reducible refine gate_callee (f := 54) rfl ?_); refine gL (some 16) Try.func54 #[.int .i64 a0, (.func (.func 55) #[] #[.pointer (some ⟨gb623, 0, none⟩), .pointer (some ⟨gb624, 0, none⟩)]), .slice Ao26 y626.length co26] ?_; (with_reducible refine (impl_polyCode.calls k a0 _ t625 _ _ y626 t629 _ ?side1 ?side2 ?side3 A6.out).mono ?_); (case side1 => exact FnB.of Try.func55 (by kernel_rfl) rfl (fun W_ hW_ => calls_of_args (args' := #[.pointer (some ⟨gb623, 0, none⟩), .pointer (some ⟨gb624, 0, none⟩)]) (by simp) ((impl_AddPolys_1.calls _ a0 _ a3 _ W_ (blk_below (g := gb623) (o := .cells #[.int .i64 a0] 2 (0, 0)) (uB BK623.out) hW_) (blk_below (g := gb624) (o := .cells #[.int .i64 a3] 2 (0, 0)) (uB BK624.out) hW_) A5.out).mono fun e_ W2_ h_ => ⟨h_.1, h_.2.below⟩))); (case side2 => exact uC ((Kd.N_reads' HO628.out).2.2)); (case side3 => exact (Kd.N_reads' HO628.out).2.1); rintro e w27 ⟨rfl, hb⟩; refine ⟨_, rfl, ?_⟩; replace HO1 := zA (Kd.V_below (by (with_reducible repeat (first | apply Kd.V_alloc | apply Kd.V_drewN | apply Kd.V_drew)); exact HO1.out) hb); replace HO2 := zA (Kd.V_below (by (with_reducible repeat (first | apply Kd.V_alloc | apply Kd.V_drewN | apply Kd.V_drew)); exact HO2.out) hb); replace HO628 := zA (Kd.N_below (by (with_reducible repeat (first | apply Kd.N_alloc | apply Kd.N_drewN | apply Kd.N_drew)); exact HO628.out) hb); replace BK623 := xB BK623 hb; replace BK624 := xB BK624 hb; replace HB := xH HB hb; (try clear hb); (try clear hb2); (try clear hk); (try clear hi)))
  go_ret2
  exact ⟨_, by first | rfl | (simp [errW_none, errW_some] <;> rfl) | (simp [*, errW_none, errW_some] <;> rfl), by first | exact Kd.R_nil _ _ _ _ _ | exact Kd.N_nil _ _ _ _ _ | exact Kd.V_nil _ _ _ _ _ | exact Kd.Q_nil _ _ _ _ _ | exact Kd.S_nil _ _ _ _ _, uH HB.out⟩

 rw [if_pos c7] at H
 have c7b0 : (t629 == 0) = true := beq_iff_eq.mpr c7
 have c7b1 : (t629 != 0) = false := bne_eq_false_iff_eq.mpr c7
 clear c7
 replace H := Option.bind_eq_some_iff.mp H
 obtain ⟨t630, A80, H⟩ := H
 replace H : (some (t630, 0)) = some (r1, r2) := H
 have A8 := zA A80
 clear A80
 simp only [Option.some.injEq, Prod.mk.injEq] at H
 obtain ⟨rfl, rfl⟩ := H
 go_enter Try.func21, Try.ntmps21
 go_wp2_with (first | ((with_reducible refine gate_dst (N := 4) rfl ?_); refine bx 4 #[.int .i64 a0] 2 ?_; intro gb623 hg w9 hbox hb; replace HO1 := zA (Kd.V_below (Kd.V_elderB (by (with_reducible repeat (first | apply Kd.V_alloc | apply Kd.V_drewN | apply Kd.V_drew)); exact HO1.out) gb623 (Nat.le_of_eq hg.symm)) hb); replace HO2 := zA (Kd.V_below (Kd.V_elderB (by (with_reducible repeat (first | apply Kd.V_alloc | apply Kd.V_drewN | apply Kd.V_drew)); exact HO2.out) gb623 (Nat.le_of_eq hg.symm)) hb); have BK623 := zA (hbox); have GW623 := gq HB hg; have GE623 := gq HB hg; replace HB := xH HB hb; have := geI GE623; clear hb hbox hg) | ((with_reducible refine gate_dst (N := 7) rfl ?_); refine bx 7 #[.int .i64 a3] 2 ?_; intro gb624 hg w10 hbox hb; replace HO1 := zA (Kd.V_below (Kd.V_elderB (by (with_reducible repeat (first | apply Kd.V_alloc | apply Kd.V_drewN | apply Kd.V_drew)); exact HO1.out) gb624 (Nat.le_of_eq hg.symm)) hb); replace HO2 := zA (Kd.V_below (Kd.V_elderB (by (with_reducible repeat (first | apply Kd.V_alloc | apply Kd.V_drewN | apply Kd.V_drew)); exact HO2.out) gb624 (Nat.le_of_eq hg.symm)) hb); have BK624 := zA (hbox); have GW624 := gq HB hg; have GE624 := gq HB hg; replace HB := xH HB hb; have NB623_624 := zA ((by rw [hg]; exact neL BK623 : gb623 ≠ gb624)); have NB624_623 := zA ((by rw [hg]; exact neG BK623 : gb624 ≠ gb623)); replace BK623 := xB BK623 hb; have := geI GE624; clear hb hbox hg; have hnb11 := NB623_624.out; have hnc11 := NB624_623.out; have hcz12_0 := bc BK623 0; have hfz12_0 := bf BK623 0) | ((with_reducible refine gate_dst (N := 15) rfl ?_); refine Kd.N_lit (Kd.slice 2 (Kd.int .i64)) _ 24 ?hg (N' := 15) ?hd (xs := ([l1, l2] : List (List Int))) (inner := [.slice A1 l1.length c1, .slice A2 l2.length c2]) (ok := (fun k_ => ((P1_ k_ ∨ P2_ k_) ∨ w.heap.size ≤ k_) ∧ k_ ≠ gb623 ∧ k_ ≠ gb624)) (okp := (fun k_ => ((P1_ k_ ∨ P2_ k_) ∨ w.heap.size ≤ k_) ∧ k_ ≠ gb623 ∧ k_ ≠ gb624)) ?hr ?hp (fun _ hk => hk) ((show ∀ k_, w10.heap.size ≤ k_ → (fun k_ => ((P1_ k_ ∨ P2_ k_) ∨ w.heap.size ≤ k_) ∧ k_ ≠ gb623 ∧ k_ ≠ gb624) k_ from fun k_ hk => ⟨(.inr (Nat.le_trans (below_size (uH HB.out)) hk)), Kd.freshB (g := gb623) (o := .cells #[.int .i64 a0] 2 (0, 0)) (uB BK623.out) k_ hk, Kd.freshB (g := gb624) (o := .cells #[.int .i64 a3] 2 (0, 0)) (uB BK624.out) k_ hk⟩) _ (Nat.le_refl _)) (Below.refl _ _) (Nat.le_refl _) (by simp) ?_; (case hd => rfl); (case hg => rfl); (case hr => first | (go_simp; done) | (go_simp; rfl)); (case hp => exact (Reps.one (show Kd.FK (Kd.slice 2 (Kd.int .i64)) _ _ l1 [.slice A1 l1.length c1] from (Kd.FK_slice_mk (Kd.V_reads' (Kd.V_mono (ok' := (fun k_ => ((P1_ k_ ∨ P2_ k_) ∨ w.heap.size ≤ k_) ∧ k_ ≠ gb623 ∧ k_ ≠ gb624)) (HO1.out) (fun k_ hk => ⟨hk.1.1, ⟨hk.1.2, hk.2⟩⟩))).2.1 (Kd.V_F (Kd.V_mono (ok' := (fun k_ => ((P1_ k_ ∨ P2_ k_) ∨ w.heap.size ≤ k_) ∧ k_ ≠ gb623 ∧ k_ ≠ gb624)) (HO1.out) (fun k_ hk => ⟨hk.1.1, ⟨hk.1.2, hk.2⟩⟩))))) (Reps.one (show Kd.FK (Kd.slice 2 (Kd.int .i64)) _ _ l2 [.slice A2 l2.length c2] from (Kd.FK_slice_mk (Kd.V_reads' (Kd.V_mono (ok' := (fun k_ => ((P1_ k_ ∨ P2_ k_) ∨ w.heap.size ≤ k_) ∧ k_ ≠ gb623 ∧ k_ ≠ gb624)) (HO2.out) (fun k_ hk => ⟨hk.1.1, ⟨hk.1.2, hk.2⟩⟩))).2.1 (Kd.V_F (Kd.V_mono (ok' := (fun k_ => ((P1_ k_ ∨ P2_ k_) ∨ w.heap.size ≤ k_) ∧ k_ ≠ gb623 ∧ k_ ≠ gb624)) (HO2.out) (fun k_ hk => ⟨hk.1.1, ⟨hk.1.2, hk.2⟩⟩))))) (Reps.none _ _)))); intro v627 w13 ho14 hb hg_ hnew_; clear hg_ hnew_; (first | rw [← Ny626.out] at ho14 | (simp only [Int.reduceToNat] at ho14; rw [← Ny626.out] at ho14)); replace HO1 := zA (Kd.V_elder' (by (with_reducible repeat (first | apply Kd.V_alloc | apply Kd.V_drewN | apply Kd.V_drew)); exact HO1.out) (Kd.N_base ho14) hb); replace HO2 := zA (Kd.V_elder' (by (with_reducible repeat (first | apply Kd.V_alloc | apply Kd.V_drewN | apply Kd.V_drew)); exact HO2.out) (Kd.N_base ho14) hb); have HO628 := zA (Kd.N_lower ho14 (below_size (uH HB.out))); replace BK623 := xB BK623 hb; replace BK624 := xB BK624 hb; replace HB := xH HB hb; clear hb ho14; obtain ⟨Ao15, co15, eo15⟩ := Kd.N_slice HO628.out; subst eo15) | ((with_reducible refine gate_callee (f := 54) rfl ?_); refine gL (some 16) Try.func54 #[.int .i64 a0, (.func (.func 55) #[] #[.pointer (some ⟨gb623, 0, none⟩), .pointer (some ⟨gb624, 0, none⟩)]), .slice Ao15 y626.length co15] ?_; (with_reducible refine (impl_polyCode.calls k a0 _ t625 _ _ y626 t629 _ ?side1 ?side2 ?side3 A6.out).mono ?_); (case side1 => exact FnB.of Try.func55 (by kernel_rfl) rfl (fun W_ hW_ => calls_of_args (args' := #[.pointer (some ⟨gb623, 0, none⟩), .pointer (some ⟨gb624, 0, none⟩)]) (by simp) ((impl_AddPolys_1.calls _ a0 _ a3 _ W_ (blk_below (g := gb623) (o := .cells #[.int .i64 a0] 2 (0, 0)) (uB BK623.out) hW_) (blk_below (g := gb624) (o := .cells #[.int .i64 a3] 2 (0, 0)) (uB BK624.out) hW_) A5.out).mono fun e_ W2_ h_ => ⟨h_.1, h_.2.below⟩))); (case side2 => exact uC ((Kd.N_reads' HO628.out).2.2)); (case side3 => exact (Kd.N_reads' HO628.out).2.1); rintro e w16 ⟨rfl, hb⟩; refine ⟨_, rfl, ?_⟩; replace HO1 := zA (Kd.V_below (by (with_reducible repeat (first | apply Kd.V_alloc | apply Kd.V_drewN | apply Kd.V_drew)); exact HO1.out) hb); replace HO2 := zA (Kd.V_below (by (with_reducible repeat (first | apply Kd.V_alloc | apply Kd.V_drewN | apply Kd.V_drew)); exact HO2.out) hb); replace HO628 := zA (Kd.N_below (by (with_reducible repeat (first | apply Kd.N_alloc | apply Kd.N_drewN | apply Kd.N_drew)); exact HO628.out) hb); replace BK623 := xB BK623 hb; replace BK624 := xB BK624 hb; replace HB := xH HB hb; (try clear hb); (try clear hb2); (try clear hk); (try clear hi); have hcz17_0 := bc BK623 0; have hfz17_0 := bf BK623 0; have hcz18_0 := bc BK624 0; have hfz18_0 := bf BK624 0) | ((with_reducible refine gate_callee (f := 56) rfl ?_); refine gL (some 24) Try.func56 #[.int .i64 a0, .slice A1 l1.length c1, .slice A2 l2.length c2, .int .i64 a3] ?_; (with_reducible refine (impl_field_add.calls k a0 _ _ l1 _ _ l2 a3 t630 _ ?side1 ?side2 ?side3 ?side4 A8.out).mono ?_); (case side1 => exact uC ((Kd.V_reads' HO1.out).2.2)); (case side2 => exact (Kd.V_reads' HO1.out).2.1); (case side3 => exact uC ((Kd.V_reads' HO2.out).2.2)); (case side4 => exact (Kd.V_reads' HO2.out).2.1); rintro e w19 ⟨v631, rfl, ho0, hb⟩; refine ⟨_, rfl, ?_⟩; replace HO1 := zA (Kd.V_elder' (by (with_reducible repeat (first | apply Kd.V_alloc | apply Kd.V_drewN | apply Kd.V_drew)); exact HO1.out) (Kd.R_base ho0) hb); replace HO2 := zA (Kd.V_elder' (by (with_reducible repeat (first | apply Kd.V_alloc | apply Kd.V_drewN | apply Kd.V_drew)); exact HO2.out) (Kd.R_base ho0) hb); replace HO628 := zA (Kd.N_elder' (by (with_reducible repeat (first | apply Kd.N_alloc | apply Kd.N_drewN | apply Kd.N_drew)); exact HO628.out) (Kd.R_base ho0) hb); have HO632 := zA (Kd.R_lower (Kd.R_newB (Kd.R_newB (Kd.R_newM (M := fun k_ => (w.heap.size ≤ k_)) ho0 (below_size (uH HB.out)) (fun k_ h_ => h_)) (g := gb623) (o := .cells #[.int .i64 a0] 2 (0, 0)) (uB BK623.out)) (g := gb624) (o := .cells #[.int .i64 a3] 2 (0, 0)) (uB BK624.out)) (below_size (uH HB.out))); replace BK623 := xB BK623 hb; replace BK624 := xB BK624 hb; replace HB := xH HB hb; (try clear hb); (try clear hb2); (try clear hk); (try clear hi); (try clear ho0)))
 go_ret2
 exact ⟨_, by first | rfl | (simp [errW_none, errW_some] <;> rfl) | (simp [*, errW_none, errW_some] <;> rfl), uR (Kd.R_mono HO632.out (fun _ hk => hk.1.1.1)), uH HB.out⟩
/-! ### impl_momentsCode: function 30 -/
def impl_momentsCode.f (k : Nat) (a0_0 : Int) (l0_1 : List Int) (a1 : Bool) (l2 : List (List Int)) : Option (Int) := (impl_AreMoments.f k a0_0 l0_1).bind fun t452 => (if t452 = true then ((impl_polyCode.f k a0_0 a1 l2).bind fun t453 => (some t453)) else (some 1))
set_option maxHeartbeats 8000000 in
set_option maxRecDepth 100000 in
theorem impl_momentsCode.calls (k : Nat) (a0_0 : Int) (A0_1 : Option Addr) (c0_1 : Nat) (l0_1 : List Int) (F1 : Value) (a1 : Bool) (A2 : Option Addr) (c2 : Nat) (l2 : List (List Int)) (r : Int) (w : World) (hr0_1 : Kd.C (Kd.int .i64) w A0_1 l0_1.length l0_1) (hc0_1 : l0_1.length ≤ c0_1) (hF1 : FnB Try.prog w F1 a1) (hr2 : Kd.C (Kd.slice 2 (Kd.int .i64)) w A2 l2.length l2) (hc2 : l2.length ≤ c2) (h : impl_momentsCode.f k a0_0 l0_1 a1 l2 = some r) :
  Calls Try.prog 30 #[.agg #[.int .i64 a0_0, .slice A0_1 l0_1.length c0_1], F1, .slice A2 l2.length c2] w fun e w' => e = .returned (.int .i64 r) ∧ Below w.heap.size w w' := by
 have hu26 := Try.underlying26
 have HR0_1 := zA hr0_1
 have HC0_1 := zA hc0_1
 clear hr0_1 hc0_1
 obtain ⟨G1, fi1, ca1, rfl, hen1, hF1⟩ := hF1
 have hen1 : ∀ (args_ : Array Value) (w_ : World), (callFunc G1 args_).run Try.prog w_ = .ok (.enter G1 args_) w_ := hen1
 have HF1 := zA hF1
 clear hF1
 have HR2 := zA hr2
 have HC2 := zA hc2
 clear hr2 hc2
 have HB := zA (Below.refl w.heap.size w)
 have H : ((impl_AreMoments.f k a0_0 l0_1).bind fun t452 => (if t452 = true then ((impl_polyCode.f k a0_0 a1 l2).bind fun t453 => (some t453)) else (some 1))) = some r := h
 clear h
 replace H := Option.bind_eq_some_iff.mp H
 obtain ⟨t452, A40, H⟩ := H
 replace H : (if t452 = true then ((impl_polyCode.f k a0_0 a1 l2).bind fun t453 => (some t453)) else (some 1)) = some r := H
 have A4 := zA A40
 clear A40
 by_cases c5 : t452 = true
 ·subst c5
  have H1 : ((impl_polyCode.f k a0_0 a1 l2).bind fun t453 => (some t453)) = some r := by rw [if_pos rfl] at H; exact H
  clear H
  have H := H1
  clear H1
  replace H := Option.bind_eq_some_iff.mp H
  obtain ⟨t453, A60, H⟩ := H
  replace H : (some t453) = some r := H
  have A6 := zA A60
  clear A60
  obtain rfl := Option.some.inj H
  go_enter Try.func30, Try.ntmps30
  go_wp2_with (first | ((with_reducible refine gate_dst (N := 3) rfl ?_); refine bx 3 #[.int .i64 a0_0, .slice A0_1 l0_1.length c0_1] 26 ?_; intro gb451 hg w7 hbox hb; have BK451 := zA (hbox); have GW451 := gq HB hg; have GE451 := gq HB hg; replace HB := xH HB hb; have := geI GE451; clear hb hbox hg; have hcz8_0 := bc BK451 0; have hcz8_1 := bc BK451 1; have hfz8_0 := bf BK451 0; have hfz8_1 := bf BK451 1) | ((with_reducible refine gate_callee (f := 9) rfl ?_); refine gL (some 8) Try.func9 #[.agg #[.int .i64 a0_0, .slice A0_1 l0_1.length c0_1]] ?_; (with_reducible refine (impl_AreMoments.calls k a0_0 _ _ l0_1 true _ ?side1 ?side2 A4.out).mono ?_); (case side1 => exact uC ((Kd.C_below HR0_1.out HB.out))); (case side2 => exact HC0_1.out); rintro e w9 ⟨rfl, hb⟩; refine ⟨_, rfl, ?_⟩; replace BK451 := xB BK451 hb; replace HB := xH HB hb; (try clear hb); (try clear hb2); (try clear hk); (try clear hi); have hcz10_0 := bc BK451 0; have hcz10_1 := bc BK451 1; have hfz10_0 := bf BK451 0; have hfz10_1 := bf BK451 1) | ((with_reducible refine gate_callee (f := 54) rfl ?_); refine gL (some 14) Try.func54 #[.int .i64 a0_0, (.func (.func G1) fi1 ca1), .slice A2 l2.length c2] ?_; (with_reducible refine (impl_polyCode.calls k a0_0 _ a1 _ _ l2 t453 _ ?side1 ?side2 ?side3 A6.out).mono ?_); (case side1 => exact FnB.later (uH HB.out) (show FnB Try.prog w (.func (.func G1) fi1 ca1) a1 from ⟨_, _, _, rfl, hen1, HF1.out⟩)); (case side2 => exact uC ((Kd.C_below HR2.out HB.out))); (case side3 => exact HC2.out); rintro e w11 ⟨rfl, hb⟩; refine ⟨_, rfl, ?_⟩; replace BK451 := xB BK451 hb; replace HB := xH HB hb; (try clear hb); (try clear hb2); (try clear hk); (try clear hi)))
  go_ret
  exact ⟨by first | rfl | (simp [errW_none, errW_some] <;> rfl) | (simp [*, errW_none, errW_some] <;> rfl), uH HB.out⟩
 ·replace c5 := Bool.eq_false_iff.mpr c5
  subst c5
  have H1 : (some 1) = some r := by rw [if_neg (show ¬ (false = true) by decide)] at H; exact H
  clear H
  have H := H1
  clear H1
  obtain rfl := Option.some.inj H
  go_enter Try.func30, Try.ntmps30
  go_wp2_with (first | ((with_reducible refine gate_dst (N := 3) rfl ?_); refine bx 3 #[.int .i64 a0_0, .slice A0_1 l0_1.length c0_1] 26 ?_; intro gb451 hg w12 hbox hb; have BK451 := zA (hbox); have GW451 := gq HB hg; have GE451 := gq HB hg; replace HB := xH HB hb; have := geI GE451; clear hb hbox hg; have hcz13_0 := bc BK451 0; have hcz13_1 := bc BK451 1; have hfz13_0 := bf BK451 0; have hfz13_1 := bf BK451 1) | ((with_reducible refine gate_callee (f := 9) rfl ?_); refine gL (some 8) Try.func9 #[.agg #[.int .i64 a0_0, .slice A0_1 l0_1.length c0_1]] ?_; (with_reducible refine (impl_AreMoments.calls k a0_0 _ _ l0_1 false _ ?side1 ?side2 A4.out).mono ?_); (case side1 => exact uC ((Kd.C_below HR0_1.out HB.out))); (case side2 => exact HC0_1.out); rintro e w14 ⟨rfl, hb⟩; refine ⟨_, rfl, ?_⟩; replace BK451 := xB BK451 hb; replace HB := xH HB hb; (try clear hb); (try clear hb2); (try clear hk); (try clear hi)))
  go_ret
  exact ⟨by first | rfl | (simp [errW_none, errW_some] <;> rfl) | (simp [*, errW_none, errW_some] <;> rfl), uH HB.out⟩
end Go.Proofs.Ytnpepkpogohcmaa.Pr
