/- Texts of this session in one: what functions of the program compute, and plain facts of it, under the conditions that each theorem names. -/
import Derived.Test.YtjdannndpfkadaaKMergeRules1
import Derived.Test.YtjdannndpfkadaaKMergeRules2
namespace Go.Proofs.Ytjdannndpfkadaa.Pr
open Go.RowKit Go.Proofs.YtjdannndpfkadaaW.PrintWords Go.Proofs.YtjdannndpfkadaaW.PrintLast Go.Proofs.YtjdannndpfkadaaW.PrintMore
attribute [local go_sem] max2_int min2_int max_two min_two max_three min_three max_four min_four   -- for this text's walks alone
set_option linter.unusedVariables false
set_option linter.unusedSimpArgs false
/-! ### impl_IsRule: function 55 -/
def impl_IsRule.f (k : Nat) (a0_0 : Int) (l0_1 : List Int) (l0_2 : List Int) : Option (Bool) := (impl_areNumbers.f k a0_0 l0_1 0 24).bind fun t500 => (if t500 = true then ((impl_areAscending.f k l0_1).bind fun t501 => (if t501 = true then ((impl_length_int64.f l0_1).bind fun t502 => ((impl_length_int64.f l0_1).bind fun t503 => ((impl_areNumbers.f k a0_0 l0_2 t502 t503).bind fun t504 => (some t504)))) else (some false))) else (some false))
def impl_IsRule.T1 : Bool × List (List Nat × List Nat) := (true, [([], []), ([0], [0]), ([], []), ([2], [2]), ([1, 3], [1, 3]), ([4, 4], [4]), ([5], [5]), ([6, 5], [5, 6]), ([7, 5, 5], [5, 7]), ([5, 8], [5, 8]), ([9, 8], [9]), ([10], [10]), ([11, 10], [10, 11]), ([10], [10]), ([13, 10], [10, 13]), ([10], [10]), ([15, 10], [10, 15]), ([16, 10, 10], [10, 16]), ([10], [10]), ([18, 10], [10, 18]), ([19, 17, 10], [10, 19]), ([12, 14, 17, 20, 20, 10], [10, 12, 14, 17, 20]), ([10, 21], [10, 21]), ([22, 21, 0, 1, 2, 3, 4, 5, 6, 7, 8, 9, 10, 11, 12, 13, 14, 15, 16, 17, 18, 19, 20, 21, 22], [22])])
def impl_IsRule.B1 : List Nat := [0, 1, 0, 4, 15, 31, 63, 127, 255, 511, 1023, 2047, 4095, 2047, 10239, 2047, 34815, 100351, 2047, 264191, 1017855, 2097151, 4194303, 8388607]
theorem impl_IsRule.tab1 : rtab .any (opsOf Try.f55 1) = impl_IsRule.T1 := by kernel_rfl
theorem impl_IsRule.bits1 : waitsOk impl_IsRule.T1.2 impl_IsRule.B1 = true := by kernel_rfl
set_option maxHeartbeats 8000000 in
set_option maxRecDepth 100000 in
theorem impl_IsRule.calls (k : Nat) (a0_0 : Int) (A0_1 : Option Addr) (c0_1 : Nat) (l0_1 : List Int) (A0_2 : Option Addr) (c0_2 : Nat) (l0_2 : List Int) (r : Bool) (w : World) (hr0_1 : Kd.C (Kd.int .i64) w A0_1 l0_1.length l0_1) (hc0_1 : l0_1.length ≤ c0_1) (hr0_2 : Kd.C (Kd.int .i64) w A0_2 l0_2.length l0_2) (hc0_2 : l0_2.length ≤ c0_2) (h : impl_IsRule.f k a0_0 l0_1 l0_2 = some r) :
  Calls Try.prog 55 #[.agg #[.int .i64 a0_0, .slice A0_1 l0_1.length c0_1, .slice A0_2 l0_2.length c0_2]] w fun e w' => e = .returned (.bool r) ∧ Below w.heap.size w w' := by
 have hu51 := Try.underlying51
 have HR0_1 := zA hr0_1
 have HC0_1 := zA hc0_1
 clear hr0_1 hc0_1
 have HR0_2 := zA hr0_2
 have HC0_2 := zA hc0_2
 clear hr0_2 hc0_2
 have HB := zA (Below.refl w.heap.size w)
 have H : ((impl_areNumbers.f k a0_0 l0_1 0 24).bind fun t500 => (if t500 = true then ((impl_areAscending.f k l0_1).bind fun t501 => (if t501 = true then ((impl_length_int64.f l0_1).bind fun t502 => ((impl_length_int64.f l0_1).bind fun t503 => ((impl_areNumbers.f k a0_0 l0_2 t502 t503).bind fun t504 => (some t504)))) else (some false))) else (some false))) = some r := h
 clear h
 replace H := Option.bind_eq_some_iff.mp H
 obtain ⟨t500, A20, H⟩ := H
 replace H : (if t500 = true then ((impl_areAscending.f k l0_1).bind fun t501 => (if t501 = true then ((impl_length_int64.f l0_1).bind fun t502 => ((impl_length_int64.f l0_1).bind fun t503 => ((impl_areNumbers.f k a0_0 l0_2 t502 t503).bind fun t504 => (some t504)))) else (some false))) else (some false)) = some r := H
 have A2 := zA A20
 clear A20
 by_cases c3 : t500 = true
 ·subst c3
  have H1 : ((impl_areAscending.f k l0_1).bind fun t501 => (if t501 = true then ((impl_length_int64.f l0_1).bind fun t502 => ((impl_length_int64.f l0_1).bind fun t503 => ((impl_areNumbers.f k a0_0 l0_2 t502 t503).bind fun t504 => (some t504)))) else (some false))) = some r := by rw [if_pos rfl] at H; exact H
  clear H
  have H := H1
  clear H1
  replace H := Option.bind_eq_some_iff.mp H
  obtain ⟨t501, A40, H⟩ := H
  replace H : (if t501 = true then ((impl_length_int64.f l0_1).bind fun t502 => ((impl_length_int64.f l0_1).bind fun t503 => ((impl_areNumbers.f k a0_0 l0_2 t502 t503).bind fun t504 => (some t504)))) else (some false)) = some r := H
  have A4 := zA A40
  clear A40
  by_cases c5 : t501 = true
  ·subst c5
   have H1 : ((impl_length_int64.f l0_1).bind fun t502 => ((impl_length_int64.f l0_1).bind fun t503 => ((impl_areNumbers.f k a0_0 l0_2 t502 t503).bind fun t504 => (some t504)))) = some r := by rw [if_pos rfl] at H; exact H
   clear H
   have H := H1
   clear H1
   replace H := Option.bind_eq_some_iff.mp H
   obtain ⟨t502, A60, H⟩ := H
   replace H : ((impl_length_int64.f l0_1).bind fun t503 => ((impl_areNumbers.f k a0_0 l0_2 t502 t503).bind fun t504 => (some t504))) = some r := H
   have A6 := zA A60
   clear A60
   replace H := Option.bind_eq_some_iff.mp H
   obtain ⟨t503, A70, H⟩ := H
   replace H : ((impl_areNumbers.f k a0_0 l0_2 t502 t503).bind fun t504 => (some t504)) = some r := H
   have A7 := zA A70
   clear A70
   replace H := Option.bind_eq_some_iff.mp H
   obtain ⟨t504, A80, H⟩ := H
   replace H : (some t504) = some r := H
   have A8 := zA A80
   clear A80
   obtain rfl := Option.some.inj H
   go_enter Try.func55, Try.ntmps55
   try go_wp2_with (first | ((with_reducible refine gate_dst (N := 1) rfl ?_); refine bx 1 #[.int .i64 a0_0, .slice A0_1 l0_1.length c0_1, .slice A0_2 l0_2.length c0_2] 51 ?_; intro gb499 hg w9 hbox hb; have BK499 := zA (hbox); have GW499 := gq HB hg; have GE499 := gq HB hg; replace HB := xH HB hb; have := geI GE499; clear hb hbox hg))
   replace BK499 := zA (blk_drew BK499.out)
   replace HB := zA (below_drew1 HB.out)
   refine start_ (n := 24) (S := fun w' => w'.cell? ⟨gb499, 0, none⟩ = some (.int .i64 a0_0) ∧ w'.cell? ⟨gb499, 1, none⟩ = some (.slice A0_1 l0_1.length c0_1) ∧ w'.cell? ⟨gb499, 2, none⟩ = some (.slice A0_2 l0_2.length c0_2)) (ds := []) #[false, false, false, false, false, false, false, false, false, false, false, false, false, false, false, false, false, false, false, false, false, false, false, false] (by kernel_rfl) rfl rfl ⟨bcu BK499 0, bcu BK499 1, bcu BK499 2⟩ (fun hHeld => ?_); refine with_tabW impl_IsRule.tab1 impl_IsRule.bits1 (fun HT_ HW_ => ?_)
   generalize w9.drew = w10 at BK499 HB hHeld ⊢
   refine pu_ 0 3 (bl 24 1) HT_ ?_
   refine pu_ 2 5 (bl 24 5) HT_ ?_
   refine ta_ 1 4 (bl 24 7) HT_ HW_ hHeld ?_
   refine ta_ 3 6 (bl 24 15) HT_ HW_ hHeld ?_
   refine on_ 4 (some 7) (bl 24 31) HT_ (fun K hK => ?_)
   refine gS Try.func72 #[.int .i64 a0_0, .slice A0_1 l0_1.length c0_1, .int .i64 0, .int .i64 24] ?_
   with_reducible refine (impl_areNumbers.calls k a0_0 _ _ l0_1 0 24 true _ ?side1 ?side2 A2.out).mono ?_
   (case side1 => exact uC ((Kd.C_below HR0_1.out HB.out)))
   (case side2 => exact HC0_1.out)
   rintro e w11 ⟨rfl, hb⟩
   refine ⟨_, rfl, ?_⟩
   replace BK499 := xB BK499 hb
   replace HB := xH HB hb
   (try clear hb); (try clear hb2); (try clear hk); (try clear hi)
   refine hK.out _ _ ⟨bcu BK499 0, bcu BK499 1, bcu BK499 2⟩ (fun hHeld => ?_)
   clear hK K
   refine no_ 7 ?_
   refine pu_ 5 8 (bl 24 63) HT_ ?_
   refine pu_ 6 9 (bl 24 127) HT_ ?_
   refine ta_ 7 10 (bl 24 255) HT_ HW_ hHeld ?_
   refine on_ 8 (some 11) (bl 24 511) HT_ (fun K hK => ?_)
   refine gS Try.func73 #[.slice A0_1 l0_1.length c0_1] ?_
   with_reducible refine (impl_areAscending.calls k _ _ l0_1 true _ ?side1 ?side2 A4.out).mono ?_
   (case side1 => exact uC ((Kd.C_below HR0_1.out HB.out)))
   (case side2 => exact HC0_1.out)
   rintro e w' ⟨rfl, ⟨nd, rfl⟩⟩
   refine ⟨_, rfl, ?_⟩
   refine hK.out _ _ ⟨bcu BK499 0, bcu BK499 1, bcu BK499 2⟩ (fun hHeld => ?_)
   clear hK K
   refine no_ 11 ?_
   refine pu_ 9 12 (bl 24 1023) HT_ ?_
   refine pu_ 10 13 (bl 24 2047) HT_ ?_
   refine pu_ 11 14 (bl 24 4095) HT_ ?_
   refine pu_ 13 16 (bl 24 12287) HT_ ?_
   refine pu_ 15 18 (bl 24 45055) HT_ ?_
   refine pu_ 18 21 (bl 24 307199) HT_ ?_
   refine ta_ 12 15 (bl 24 311295) HT_ HW_ hHeld ?_
   refine ta_ 14 17 (bl 24 327679) HT_ HW_ hHeld ?_
   refine ta_ 16 19 (bl 24 393215) HT_ HW_ hHeld ?_
   refine ta_ 19 22 (bl 24 917503) HT_ HW_ hHeld ?_
   refine on_ 17 (some 20) (bl 24 1048575) HT_ (fun K hK => ?_)
   refine gS Try.func50 #[.slice A0_1 l0_1.length c0_1] ?_
   with_reducible refine (impl_length_int64.calls _ _ l0_1 t502 _ ?side1 ?side2 A6.out).mono ?_
   (case side1 => repeat (first | exact (Kd.C_below HR0_1.out (uH HB.out)) | (with_reducible refine Kd.C_alloc ?_ _) | (with_reducible refine Kd.C_drewN ?_ _) | (with_reducible refine Kd.C_drew ?_)))
   (case side2 => exact HC0_1.out)
   rintro e w' ⟨rfl, ⟨nd, rfl⟩⟩
   refine ⟨_, rfl, ?_⟩
   refine hK.out _ _ ⟨bcu BK499 0, bcu BK499 1, bcu BK499 2⟩ (fun hHeld => ?_)
   clear hK K
   refine no_ 20 ?_
   refine on_ 20 (some 23) (bl 24 2097151) HT_ (fun K hK => ?_)
   refine gS Try.func50 #[.slice A0_1 l0_1.length c0_1] ?_
   with_reducible refine (impl_length_int64.calls _ _ l0_1 t503 _ ?side1 ?side2 A7.out).mono ?_
   (case side1 => repeat (first | exact (Kd.C_below HR0_1.out (uH HB.out)) | (with_reducible refine Kd.C_alloc ?_ _) | (with_reducible refine Kd.C_drewN ?_ _) | (with_reducible refine Kd.C_drew ?_)))
   (case side2 => exact HC0_1.out)
   rintro e w' ⟨rfl, ⟨nd, rfl⟩⟩
   refine ⟨_, rfl, ?_⟩
   refine hK.out _ _ ⟨bcu BK499 0, bcu BK499 1, bcu BK499 2⟩ (fun hHeld => ?_)
   clear hK K
   refine no_ 23 ?_
   refine on_ 21 (some 24) (bl 24 4194303) HT_ (fun K hK => ?_)
   refine gS Try.func72 #[.int .i64 a0_0, .slice A0_2 l0_2.length c0_2, .int .i64 t502, .int .i64 t503] ?_
   with_reducible refine (impl_areNumbers.calls k a0_0 _ _ l0_2 t502 t503 t504 _ ?side1 ?side2 A8.out).mono ?_
   (case side1 => repeat (first | exact (Kd.C_below HR0_2.out (uH HB.out)) | (with_reducible refine Kd.C_alloc ?_ _) | (with_reducible refine Kd.C_drewN ?_ _) | (with_reducible refine Kd.C_drew ?_)))
   (case side2 => exact HC0_2.out)
   rintro e w12 ⟨rfl, hb⟩
   refine ⟨_, rfl, ?_⟩
   replace BK499 := xB BK499 hb
   replace HB := xH HB hb
   (try clear hb); (try clear hb2); (try clear hk); (try clear hi)
   refine hK.out _ _ ⟨bcu BK499 0, bcu BK499 1, bcu BK499 2⟩ (fun hHeld => ?_)
   clear hK K
   refine no_ 24 ?_
   refine pu_ 22 25 (bl 24 8388607) HT_ ?_
   refine pu_ 23 2 (bl 24 16777215) HT_ ?_
   refine done_ (done_of HT_.out (by kernel_rfl)) ?_
   try go_wp2
   go_ret
   exact ⟨by first | rfl | (simp [errW_none, errW_some] <;> rfl) | (simp [*, errW_none, errW_some] <;> rfl), uH HB.out⟩
  ·replace c5 := Bool.eq_false_iff.mpr c5
   subst c5
   have H1 : (some false) = some r := by rw [if_neg (show ¬ (false = true) by decide)] at H; exact H
   clear H
   have H := H1
   clear H1
   obtain rfl := Option.some.inj H
   go_enter Try.func55, Try.ntmps55
   try go_wp2_with (first | ((with_reducible refine gate_dst (N := 1) rfl ?_); refine bx 1 #[.int .i64 a0_0, .slice A0_1 l0_1.length c0_1, .slice A0_2 l0_2.length c0_2] 51 ?_; intro gb499 hg w13 hbox hb; have BK499 := zA (hbox); have GW499 := gq HB hg; have GE499 := gq HB hg; replace HB := xH HB hb; have := geI GE499; clear hb hbox hg))
   replace BK499 := zA (blk_drew BK499.out)
   replace HB := zA (below_drew1 HB.out)
   refine start_ (n := 24) (S := fun w' => w'.cell? ⟨gb499, 0, none⟩ = some (.int .i64 a0_0) ∧ w'.cell? ⟨gb499, 1, none⟩ = some (.slice A0_1 l0_1.length c0_1) ∧ w'.cell? ⟨gb499, 2, none⟩ = some (.slice A0_2 l0_2.length c0_2)) (ds := []) #[false, false, false, false, false, false, false, false, false, false, false, false, false, false, false, false, false, false, false, false, false, false, false, false] (by kernel_rfl) rfl rfl ⟨bcu BK499 0, bcu BK499 1, bcu BK499 2⟩ (fun hHeld => ?_); refine with_tabW impl_IsRule.tab1 impl_IsRule.bits1 (fun HT_ HW_ => ?_)
   generalize w13.drew = w14 at BK499 HB hHeld ⊢
   refine pu_ 0 3 (bl 24 1) HT_ ?_
   refine pu_ 2 5 (bl 24 5) HT_ ?_
   refine ta_ 1 4 (bl 24 7) HT_ HW_ hHeld ?_
   refine ta_ 3 6 (bl 24 15) HT_ HW_ hHeld ?_
   refine on_ 4 (some 7) (bl 24 31) HT_ (fun K hK => ?_)
   refine gS Try.func72 #[.int .i64 a0_0, .slice A0_1 l0_1.length c0_1, .int .i64 0, .int .i64 24] ?_
   with_reducible refine (impl_areNumbers.calls k a0_0 _ _ l0_1 0 24 true _ ?side1 ?side2 A2.out).mono ?_
   (case side1 => exact uC ((Kd.C_below HR0_1.out HB.out)))
   (case side2 => exact HC0_1.out)
   rintro e w15 ⟨rfl, hb⟩
   refine ⟨_, rfl, ?_⟩
   replace BK499 := xB BK499 hb
   replace HB := xH HB hb
   (try clear hb); (try clear hb2); (try clear hk); (try clear hi)
   refine hK.out _ _ ⟨bcu BK499 0, bcu BK499 1, bcu BK499 2⟩ (fun hHeld => ?_)
   clear hK K
   refine no_ 7 ?_
   refine pu_ 5 8 (bl 24 63) HT_ ?_
   refine pu_ 6 9 (bl 24 127) HT_ ?_
   refine ta_ 7 10 (bl 24 255) HT_ HW_ hHeld ?_
   refine on_ 8 (some 11) (bl 24 511) HT_ (fun K hK => ?_)
   refine gS Try.func73 #[.slice A0_1 l0_1.length c0_1] ?_
   with_reducible refine (impl_areAscending.calls k _ _ l0_1 false _ ?side1 ?side2 A4.out).mono ?_
   (case side1 => exact uC ((Kd.C_below HR0_1.out HB.out)))
   (case side2 => exact HC0_1.out)
   rintro e w' ⟨rfl, ⟨nd, rfl⟩⟩
   refine ⟨_, rfl, ?_⟩
   refine hK.out _ _ ⟨bcu BK499 0, bcu BK499 1, bcu BK499 2⟩ (fun hHeld => ?_)
   clear hK K
   refine no_ 11 ?_
   refine pu_ 9 12 (bl 24 1023) HT_ ?_
   refine pu_ 10 13 (bl 24 2047) HT_ ?_
   refine un_ 11 14 (bl 24 4095) HT_ ?_
   refine un_ 12 15 (bl 24 8191) HT_ ?_
   refine un_ 13 16 (bl 24 16383) HT_ ?_
   refine un_ 14 17 (bl 24 32767) HT_ ?_
   refine un_ 15 18 (bl 24 65535) HT_ ?_
   refine un_ 16 19 (bl 24 131071) HT_ ?_
   refine un_ 17 20 (bl 24 262143) HT_ ?_
   refine un_ 18 21 (bl 24 524287) HT_ ?_
   refine un_ 19 22 (bl 24 1048575) HT_ ?_
   refine un_ 20 23 (bl 24 2097151) HT_ ?_
   refine un_ 21 24 (bl 24 4194303) HT_ ?_
   refine pu_ 22 25 (bl 24 8388607) HT_ ?_
   refine pu_ 23 2 (bl 24 16777215) HT_ ?_
   refine done_ (done_of HT_.out (by kernel_rfl)) ?_
   try go_wp2
   go_ret
   exact ⟨by first | rfl | (simp [errW_none, errW_some] <;> rfl) | (simp [*, errW_none, errW_some] <;> rfl), uH HB.out⟩
 ·replace c3 := Bool.eq_false_iff.mpr c3
  subst c3
  have H1 : (some false) = some r := by rw [if_neg (show ¬ (false = true) by decide)] at H; exact H
  clear H
  have H := H1
  clear H1
  obtain rfl := Option.some.inj H
  go_enter Try.func55, Try.ntmps55
  try go_wp2_with (first | ((with_reducible refine gate_dst (N := 1) rfl ?_); refine bx 1 #[.int .i64 a0_0, .slice A0_1 l0_1.length c0_1, .slice A0_2 l0_2.length c0_2] 51 ?_; intro gb499 hg w16 hbox hb; have BK499 := zA (hbox); have GW499 := gq HB hg; have GE499 := gq HB hg; replace HB := xH HB hb; have := geI GE499; clear hb hbox hg))
  replace BK499 := zA (blk_drew BK499.out)
  replace HB := zA (below_drew1 HB.out)
  refine start_ (n := 24) (S := fun w' => w'.cell? ⟨gb499, 0, none⟩ = some (.int .i64 a0_0) ∧ w'.cell? ⟨gb499, 1, none⟩ = some (.slice A0_1 l0_1.length c0_1) ∧ w'.cell? ⟨gb499, 2, none⟩ = some (.slice A0_2 l0_2.length c0_2)) (ds := []) #[false, false, false, false, false, false, false, false, false, false, false, false, false, false, false, false, false, false, false, false, false, false, false, false] (by kernel_rfl) rfl rfl ⟨bcu BK499 0, bcu BK499 1, bcu BK499 2⟩ (fun hHeld => ?_); refine with_tabW impl_IsRule.tab1 impl_IsRule.bits1 (fun HT_ HW_ => ?_)
  generalize w16.drew = w17 at BK499 HB hHeld ⊢
  refine pu_ 0 3 (bl 24 1) HT_ ?_
  refine pu_ 2 5 (bl 24 5) HT_ ?_
  refine ta_ 1 4 (bl 24 7) HT_ HW_ hHeld ?_
  refine ta_ 3 6 (bl 24 15) HT_ HW_ hHeld ?_
  refine on_ 4 (some 7) (bl 24 31) HT_ (fun K hK => ?_)
  refine gS Try.func72 #[.int .i64 a0_0, .slice A0_1 l0_1.length c0_1, .int .i64 0, .int .i64 24] ?_
  with_reducible refine (impl_areNumbers.calls k a0_0 _ _ l0_1 0 24 false _ ?side1 ?side2 A2.out).mono ?_
  (case side1 => exact uC ((Kd.C_below HR0_1.out HB.out)))
  (case side2 => exact HC0_1.out)
  rintro e w18 ⟨rfl, hb⟩
  refine ⟨_, rfl, ?_⟩
  replace BK499 := xB BK499 hb
  replace HB := xH HB hb
  (try clear hb); (try clear hb2); (try clear hk); (try clear hi)
  refine hK.out _ _ ⟨bcu BK499 0, bcu BK499 1, bcu BK499 2⟩ (fun hHeld => ?_)
  clear hK K
  refine no_ 7 ?_
  refine pu_ 5 8 (bl 24 63) HT_ ?_
  refine un_ 6 9 (bl 24 127) HT_ ?_
  refine un_ 7 10 (bl 24 255) HT_ ?_
  refine un_ 8 11 (bl 24 511) HT_ ?_
  refine pu_ 9 12 (bl 24 1023) HT_ ?_
  refine pu_ 10 13 (bl 24 2047) HT_ ?_
  refine un_ 11 14 (bl 24 4095) HT_ ?_
  refine un_ 12 15 (bl 24 8191) HT_ ?_
  refine un_ 13 16 (bl 24 16383) HT_ ?_
  refine un_ 14 17 (bl 24 32767) HT_ ?_
  refine un_ 15 18 (bl 24 65535) HT_ ?_
  refine un_ 16 19 (bl 24 131071) HT_ ?_
  refine un_ 17 20 (bl 24 262143) HT_ ?_
  refine un_ 18 21 (bl 24 524287) HT_ ?_
  refine un_ 19 22 (bl 24 1048575) HT_ ?_
  refine un_ 20 23 (bl 24 2097151) HT_ ?_
  refine un_ 21 24 (bl 24 4194303) HT_ ?_
  refine pu_ 22 25 (bl 24 8388607) HT_ ?_
  refine pu_ 23 2 (bl 24 16777215) HT_ ?_
  refine done_ (done_of HT_.out (by kernel_rfl)) ?_
  try go_wp2
  go_ret
  exact ⟨by first | rfl | (simp [errW_none, errW_some] <;> rfl) | (simp [*, errW_none, errW_some] <;> rfl), uH HB.out⟩
/-! ### impl_polyCode_1: function 82 -/
def impl_polyCode_1.f (l0 : List Int) (a1_0 : Int) : Option (Bool) := (impl_IsPoly.f a1_0 l0).bind fun t340 => (some t340)
set_option maxHeartbeats 8000000 in
set_option maxRecDepth 100000 in
theorem impl_polyCode_1.calls (A0 : Option Addr) (c0 : Nat) (l0 : List Int) (gc1 : Nat) (a1_0 : Int) (r : Bool) (w : World) (hr0 : Kd.C (Kd.int .i64) w A0 l0.length l0) (hc0 : l0.length ≤ c0) (hb1 : w.heap[gc1]? = some (.cells #[.int .i64 a1_0] 2 (0, 0))) (h : impl_polyCode_1.f l0 a1_0 = some r) :
  Calls Try.prog 82 #[.slice A0 l0.length c0, .pointer (some ⟨gc1, 0, none⟩)] w fun e w' => e = .returned (.bool r) ∧ Below w.heap.size w w' := by
 have HR0 := zA hr0
 have HC0 := zA hc0
 clear hr0 hc0
 have BK1 := zA hb1
 clear hb1
 have HB := zA (Below.refl w.heap.size w)
 have H : ((impl_IsPoly.f a1_0 l0).bind fun t340 => (some t340)) = some r := h
 clear h
 replace H := Option.bind_eq_some_iff.mp H
 obtain ⟨t340, A30, H⟩ := H
 replace H : (some t340) = some r := H
 have A3 := zA A30
 clear A30
 obtain rfl := Option.some.inj H
 have hcz4_0 := bc BK1 0
 have hfz4_0 := bf BK1 0
 go_enter Try.func82, Try.ntmps82
 go_wp2_with (first | ((with_reducible refine gate_callee (f := 83) rfl ?_); refine gL (some 6) Try.func83 #[.int .i64 a1_0, .slice A0 l0.length c0] ?_; (with_reducible refine (impl_IsPoly.calls a1_0 _ _ l0 t340 _ ?side1 ?side2 A3.out).mono ?_); (case side1 => exact uC HR0.out); (case side2 => exact HC0.out); rintro e w5 ⟨rfl, hb⟩; refine ⟨_, rfl, ?_⟩; replace BK1 := xB BK1 hb; replace HB := xH HB hb; (try clear hb); (try clear hb2); (try clear hk); (try clear hi)))
 go_ret
 exact ⟨by first | rfl | (simp [errW_none, errW_some] <;> rfl) | (simp [*, errW_none, errW_some] <;> rfl), uH HB.out⟩
/- Lists of lists all of whose elements answer yes: what areAll computes. -/
def impl_areAll_rows.f (l : List (List Int)) (p : List Int → Option Bool) : Option Bool := if l.length < 4611686018427387904 then allO p l else none
theorem indexFunc_rows (p : List Int → Option Bool) (l : List (List Int)) (hl : l.length < 4611686018427387904) (d : Nat) : ∀ (k i : Nat) (r : Bool), i + d = l.length → d < k → allO p (l.drop i) = some r →
    ∃ j, slices_IndexFunc_rows.l0 k l (fun z_ => impl_areAll_rows_1.f z_ p) (l.length : Int) (i : Int) = some j ∧ decide (j ≥ 0) = !r := by
  induction d with
  | zero =>
    intro k i r hi hk h
    obtain ⟨k, rfl⟩ : ∃ m, k = m + 1 := ⟨k - 1, by omega⟩
    simp only [slices_IndexFunc_rows.l0]
    rw [if_neg (by omega)]
    rw [List.drop_eq_nil_of_le (by omega)] at h
    simp only [allO, Option.some.injEq] at h
    subst h
    exact ⟨-1, rfl, rfl⟩
  | succ d ih =>
    intro k i r hi hk h
    obtain ⟨k, rfl⟩ : ∃ m, k = m + 1 := ⟨k - 1, by omega⟩
    simp only [slices_IndexFunc_rows.l0]
    rw [if_pos (by omega), if_pos (by omega), if_pos (by omega)]
    rw [drop_cons l [] i (by omega)] at h
    simp only [allO] at h
    have e : rd_L1 l (i : Int) = l.getD i [] := by simp [rd_L1]
    rw [e]
    obtain ⟨b, hb, h⟩ := Option.bind_eq_some_iff.mp h
    simp only [impl_areAll_rows_1.f, hb, Option.bind_some]
    cases b with
    | true =>
      rw [if_pos rfl] at h
      simp only [Bool.not_true, Bool.false_eq_true, if_false]
      rw [wrap_succ (n := l.length) (by omega) (by omega) hl]
      exact ih k (i + 1) r (by omega) (by omega) h
    | false =>
      simp only [Bool.false_eq_true, if_false, Option.some.injEq] at h
      subst h
      simp only [Bool.not_false, if_true]
      exact ⟨i, rfl, by simp⟩

theorem areAllK_rows {l : List (List Int)} {p : List Int → Option Bool} {r : Bool} (h : impl_areAll_rows.f l p = some r) : impl_areAll_rowsK.f (l.length + 1) l p = some r := by
  unfold impl_areAll_rows.f at h
  split at h
  · rename_i hl
    obtain ⟨j, h1, h2⟩ := indexFunc_rows p l hl l.length (l.length + 1) 0 r (by omega) (by omega) (by simpa using h)
    unfold impl_areAll_rowsK.f slices_ContainsFunc_rows.f slices_IndexFunc_rows.f
    have h1' : slices_IndexFunc_rows.l0 (l.length + 1) l (fun z_ => impl_areAll_rows_1.f z_ p) (l.length : Int) 0 = some j := h1
    rw [h1']
    simp only [Option.bind_some, h2, Bool.not_not]
  · cases h

theorem impl_areAll_rows.calls (A0 : Option Addr) (c0 : Nat) (l0 : List (List Int)) (F1 : Value) (a1 : (List Int → Option Bool)) (r : Bool) (w : World) (hr0 : Kd.C (Kd.slice 2 (Kd.int .i64)) w A0 l0.length l0) (hc0 : l0.length ≤ c0) (hF1 : FnL Try.prog w F1 a1) (h : impl_areAll_rows.f l0 a1 = some r) :
    Calls Try.prog 81 #[.slice A0 l0.length c0, F1] w fun e w' => e = .returned (.bool r) ∧ Below w.heap.size w w' :=
  impl_areAll_rowsK.calls _ A0 c0 l0 F1 a1 r w hr0 hc0 hF1 (areAllK_rows h)
/-! ### impl_polyCode: function 67 -/
def impl_polyCode.f (k : Nat) (a0 : Int) (a1 : Bool) (l2 : List (List Int)) : Option (Int) := (impl_areAll_rows.f l2 (fun z_ => impl_polyCode_1.f z_ a0)).bind fun t342 => (if t342 = true then ((impl_IsPrime.f k a0).bind fun t343 => (if t343 = true then (if a1 = true then (some 0) else (some 2)) else (some 2))) else (some 1))
set_option maxHeartbeats 8000000 in
set_option maxRecDepth 100000 in
theorem impl_polyCode.calls (k : Nat) (a0 : Int) (F1 : Value) (a1 : Bool) (A2 : Option Addr) (c2 : Nat) (l2 : List (List Int)) (r : Int) (w : World) (hF1 : FnB Try.prog w F1 a1) (hr2 : Kd.C (Kd.slice 2 (Kd.int .i64)) w A2 l2.length l2) (hc2 : l2.length ≤ c2) (h : impl_polyCode.f k a0 a1 l2 = some r) :
  Calls Try.prog 67 #[.int .i64 a0, F1, .slice A2 l2.length c2] w fun e w' => e = .returned (.int .i64 r) ∧ Below w.heap.size w w' := by
 have hmf : ∀ (fn_ : Fn) (first_ cap_ : Array Value) (w_ : World), (Instr.makeFunc fn_ first_ cap_).run Try.prog w_ = .ok (.func fn_ first_ cap_) w_ := fun _ _ _ _ => rfl
 obtain ⟨G1, fi1, ca1, rfl, hen1, hF1⟩ := hF1
 have hen1 : ∀ (args_ : Array Value) (w_ : World), (callFunc G1 args_).run Try.prog w_ = .ok (.enter G1 args_) w_ := hen1
 have HF1 := zA hF1
 clear hF1
 have HR2 := zA hr2
 have HC2 := zA hc2
 clear hr2 hc2
 have HB := zA (Below.refl w.heap.size w)
 have H : ((impl_areAll_rows.f l2 (fun z_ => impl_polyCode_1.f z_ a0)).bind fun t342 => (if t342 = true then ((impl_IsPrime.f k a0).bind fun t343 => (if t343 = true then (if a1 = true then (some 0) else (some 2)) else (some 2))) else (some 1))) = some r := h
 clear h
 replace H := Option.bind_eq_some_iff.mp H
 obtain ⟨t342, A40, H⟩ := H
 replace H : (if t342 = true then ((impl_IsPrime.f k a0).bind fun t343 => (if t343 = true then (if a1 = true then (some 0) else (some 2)) else (some 2))) else (some 1)) = some r := H
 have A4 := zA A40
 clear A40
 by_cases c5 : t342 = true
 ·subst c5
  have H1 : ((impl_IsPrime.f k a0).bind fun t343 => (if t343 = true then (if a1 = true then (some 0) else (some 2)) else (some 2))) = some r := by rw [if_pos rfl] at H; exact H
  clear H
  have H := H1
  clear H1
  replace H := Option.bind_eq_some_iff.mp H
  obtain ⟨t343, A60, H⟩ := H
  replace H : (if t343 = true then (if a1 = true then (some 0) else (some 2)) else (some 2)) = some r := H
  have A6 := zA A60
  clear A60
  by_cases c7 : t343 = true
  ·subst c7
   have H1 : (if a1 = true then (some 0) else (some 2)) = some r := by rw [if_pos rfl] at H; exact H
   clear H
   have H := H1
   clear H1
   by_cases c8 : a1 = true
   ·subst c8
    have H1 : (some 0) = some r := by rw [if_pos rfl] at H; exact H
    clear H
    have H := H1
    clear H1
    obtain rfl := Option.some.inj H
    go_enter Try.func67, Try.ntmps67
    go_wp2_with (first | ((with_reducible refine gate_dst (N := 3) rfl ?_); refine bx 3 #[.int .i64 a0] 2 ?_; intro gb341 hg w9 hbox hb; have BK341 := zA (hbox); have GW341 := gq HB hg; have GE341 := gq HB hg; replace HB := xH HB hb; have := geI GE341; clear hb hbox hg) | ((with_reducible refine gate_callee (f := 81) rfl ?_); refine gL (some 10) Try.func81 #[.slice A2 l2.length c2, (.func (.func 82) #[] #[.pointer (some ⟨gb341, 0, none⟩)])] ?_; (with_reducible refine (impl_areAll_rows.calls _ _ l2 _ (fun z_ => impl_polyCode_1.f z_ a0) true _ ?side1 ?side2 ?side3 A4.out).mono ?_); (case side1 => exact uC ((Kd.C_below HR2.out HB.out))); (case side2 => exact HC2.out); (case side3 => exact FnL.of Try.func82 (by kernel_rfl) rfl (fun z_ r_ A_ c_ hr_ W_ hW_ hC_ hc_ => calls_of_args (args' := #[.slice A_ z_.length c_, .pointer (some ⟨gb341, 0, none⟩)]) (by simp) ((impl_polyCode_1.calls A_ c_ z_ _ a0 r_ W_ hC_ hc_ (blk_below (g := gb341) (o := .cells #[.int .i64 a0] 2 (0, 0)) (uB BK341.out) hW_) hr_).mono fun e_ W2_ h_ => ⟨h_.1, h_.2⟩))); rintro e w10 ⟨rfl, hb⟩; refine ⟨_, rfl, ?_⟩; replace BK341 := xB BK341 hb; replace HB := xH HB hb; (try clear hb); (try clear hb2); (try clear hk); (try clear hi); have hcz11_0 := bc BK341 0; have hfz11_0 := bf BK341 0) | ((with_reducible refine gate_callee (f := 77) rfl ?_); refine gL (some 14) Try.func77 #[.int .i64 a0] ?_; (with_reducible refine (impl_IsPrime.calls k a0 true _ A6.out).mono ?_); rintro e w' ⟨rfl, ⟨nd, rfl⟩⟩; refine ⟨_, rfl, ?_⟩) | (go_at_fn G1; refine calls_of_args (args' := fi1 ++ ca1) (by simp) ?_; refine (HF1.out _ (uH HB.out)).mono ?_; rintro e w12 ⟨rfl, hb⟩; replace BK341 := xB BK341 hb; replace HB := xH HB hb; (try clear hb)))
    go_ret
    exact ⟨by first | rfl | (simp [errW_none, errW_some] <;> rfl) | (simp [*, errW_none, errW_some] <;> rfl), uH HB.out⟩
   ·replace c8 := Bool.eq_false_iff.mpr c8
    subst c8
    have H1 : (some 2) = some r := by rw [if_neg (show ¬ (false = true) by decide)] at H; exact H
    clear H
    have H := H1
    clear H1
    obtain rfl := Option.some.inj H
    go_enter Try.func67, Try.ntmps67
    go_wp2_with (first | ((with_reducible refine gate_dst (N := 3) rfl ?_); refine bx 3 #[.int .i64 a0] 2 ?_; intro gb341 hg w13 hbox hb; have BK341 := zA (hbox); have GW341 := gq HB hg; have GE341 := gq HB hg; replace HB := xH HB hb; have := geI GE341; clear hb hbox hg) | ((with_reducible refine gate_callee (f := 81) rfl ?_); refine gL (some 10) Try.func81 #[.slice A2 l2.length c2, (.func (.func 82) #[] #[.pointer (some ⟨gb341, 0, none⟩)])] ?_; (with_reducible refine (impl_areAll_rows.calls _ _ l2 _ (fun z_ => impl_polyCode_1.f z_ a0) true _ ?side1 ?side2 ?side3 A4.out).mono ?_); (case side1 => exact uC ((Kd.C_below HR2.out HB.out))); (case side2 => exact HC2.out); (case side3 => exact FnL.of Try.func82 (by kernel_rfl) rfl (fun z_ r_ A_ c_ hr_ W_ hW_ hC_ hc_ => calls_of_args (args' := #[.slice A_ z_.length c_, .pointer (some ⟨gb341, 0, none⟩)]) (by simp) ((impl_polyCode_1.calls A_ c_ z_ _ a0 r_ W_ hC_ hc_ (blk_below (g := gb341) (o := .cells #[.int .i64 a0] 2 (0, 0)) (uB BK341.out) hW_) hr_).mono fun e_ W2_ h_ => ⟨h_.1, h_.2⟩))); rintro e w14 ⟨rfl, hb⟩; refine ⟨_, rfl, ?_⟩; replace BK341 := xB BK341 hb; replace HB := xH HB hb; (try clear hb); (try clear hb2); (try clear hk); (try clear hi); have hcz15_0 := bc BK341 0; have hfz15_0 := bf BK341 0) | ((with_reducible refine gate_callee (f := 77) rfl ?_); refine gL (some 14) Try.func77 #[.int .i64 a0] ?_; (with_reducible refine (impl_IsPrime.calls k a0 true _ A6.out).mono ?_); rintro e w' ⟨rfl, ⟨nd, rfl⟩⟩; refine ⟨_, rfl, ?_⟩) | (go_at_fn G1; refine calls_of_args (args' := fi1 ++ ca1) (by simp) ?_; refine (HF1.out _ (uH HB.out)).mono ?_; rintro e w16 ⟨rfl, hb⟩; replace BK341 := xB BK341 hb; replace HB := xH HB hb; (try clear hb)))
    go_ret
    exact ⟨by first | rfl | (simp [errW_none, errW_some] <;> rfl) | (simp [*, errW_none, errW_some] <;> rfl), uH HB.out⟩
  ·replace c7 := Bool.eq_false_iff.mpr c7
   subst c7
   have H1 : (some 2) = some r := by rw [if_neg (show ¬ (false = true) by decide)] at H; exact H
   clear H
   have H := H1
   clear H1
   obtain rfl := Option.some.inj H
   go_enter Try.func67, Try.ntmps67
   go_wp2_with (first | ((with_reducible refine gate_dst (N := 3) rfl ?_); refine bx 3 #[.int .i64 a0] 2 ?_; intro gb341 hg w17 hbox hb; have BK341 := zA (hbox); have GW341 := gq HB hg; have GE341 := gq HB hg; replace HB := xH HB hb; have := geI GE341; clear hb hbox hg) | ((with_reducible refine gate_callee (f := 81) rfl ?_); refine gL (some 10) Try.func81 #[.slice A2 l2.length c2, (.func (.func 82) #[] #[.pointer (some ⟨gb341, 0, none⟩)])] ?_; (with_reducible refine (impl_areAll_rows.calls _ _ l2 _ (fun z_ => impl_polyCode_1.f z_ a0) true _ ?side1 ?side2 ?side3 A4.out).mono ?_); (case side1 => exact uC ((Kd.C_below HR2.out HB.out))); (case side2 => exact HC2.out); (case side3 => exact FnL.of Try.func82 (by kernel_rfl) rfl (fun z_ r_ A_ c_ hr_ W_ hW_ hC_ hc_ => calls_of_args (args' := #[.slice A_ z_.length c_, .pointer (some ⟨gb341, 0, none⟩)]) (by simp) ((impl_polyCode_1.calls A_ c_ z_ _ a0 r_ W_ hC_ hc_ (blk_below (g := gb341) (o := .cells #[.int .i64 a0] 2 (0, 0)) (uB BK341.out) hW_) hr_).mono fun e_ W2_ h_ => ⟨h_.1, h_.2⟩))); rintro e w18 ⟨rfl, hb⟩; refine ⟨_, rfl, ?_⟩; replace BK341 := xB BK341 hb; replace HB := xH HB hb; (try clear hb); (try clear hb2); (try clear hk); (try clear hi); have hcz19_0 := bc BK341 0; have hfz19_0 := bf BK341 0) | ((with_reducible refine gate_callee (f := 77) rfl ?_); refine gL (some 14) Try.func77 #[.int .i64 a0] ?_; (with_reducible refine (impl_IsPrime.calls k a0 false _ A6.out).mono ?_); rintro e w' ⟨rfl, ⟨nd, rfl⟩⟩; refine ⟨_, rfl, ?_⟩))
   go_ret
   exact ⟨by first | rfl | (simp [errW_none, errW_some] <;> rfl) | (simp [*, errW_none, errW_some] <;> rfl), uH HB.out⟩
 ·replace c5 := Bool.eq_false_iff.mpr c5
  subst c5
  have H1 : (some 1) = some r := by rw [if_neg (show ¬ (false = true) by decide)] at H; exact H
  clear H
  have H := H1
  clear H1
  obtain rfl := Option.some.inj H
  go_enter Try.func67, Try.ntmps67
  go_wp2_with (first | ((with_reducible refine gate_dst (N := 3) rfl ?_); refine bx 3 #[.int .i64 a0] 2 ?_; intro gb341 hg w20 hbox hb; have BK341 := zA (hbox); have GW341 := gq HB hg; have GE341 := gq HB hg; replace HB := xH HB hb; have := geI GE341; clear hb hbox hg) | ((with_reducible refine gate_callee (f := 81) rfl ?_); refine gL (some 10) Try.func81 #[.slice A2 l2.length c2, (.func (.func 82) #[] #[.pointer (some ⟨gb341, 0, none⟩)])] ?_; (with_reducible refine (impl_areAll_rows.calls _ _ l2 _ (fun z_ => impl_polyCode_1.f z_ a0) false _ ?side1 ?side2 ?side3 A4.out).mono ?_); (case side1 => exact uC ((Kd.C_below HR2.out HB.out))); (case side2 => exact HC2.out); (case side3 => exact FnL.of Try.func82 (by kernel_rfl) rfl (fun z_ r_ A_ c_ hr_ W_ hW_ hC_ hc_ => calls_of_args (args' := #[.slice A_ z_.length c_, .pointer (some ⟨gb341, 0, none⟩)]) (by simp) ((impl_polyCode_1.calls A_ c_ z_ _ a0 r_ W_ hC_ hc_ (blk_below (g := gb341) (o := .cells #[.int .i64 a0] 2 (0, 0)) (uB BK341.out) hW_) hr_).mono fun e_ W2_ h_ => ⟨h_.1, h_.2⟩))); rintro e w21 ⟨rfl, hb⟩; refine ⟨_, rfl, ?_⟩; replace BK341 := xB BK341 hb; replace HB := xH HB hb; (try clear hb); (try clear hb2); (try clear hk); (try clear hi)))
  go_ret
  exact ⟨by first | rfl | (simp [errW_none, errW_some] <;> rfl) | (simp [*, errW_none, errW_some] <;> rfl), uH HB.out⟩
/-! ### impl_ruleCode: function 59 -/
def impl_ruleCode.f (k : Nat) (a0_0 : Int) (l0_1 : List Int) (l0_2 : List Int) (a1 : Bool) (l2 : List (List Int)) : Option (Int) := (impl_IsRule.f k a0_0 l0_1 l0_2).bind fun t681 => (if t681 = true then ((impl_polyCode.f k a0_0 a1 l2).bind fun t682 => (some t682)) else (some 1))
set_option maxHeartbeats 8000000 in
set_option maxRecDepth 100000 in
theorem impl_ruleCode.calls (k : Nat) (a0_0 : Int) (A0_1 : Option Addr) (c0_1 : Nat) (l0_1 : List Int) (A0_2 : Option Addr) (c0_2 : Nat) (l0_2 : List Int) (F1 : Value) (a1 : Bool) (A2 : Option Addr) (c2 : Nat) (l2 : List (List Int)) (r : Int) (w : World) (hr0_1 : Kd.C (Kd.int .i64) w A0_1 l0_1.length l0_1) (hc0_1 : l0_1.length ≤ c0_1) (hr0_2 : Kd.C (Kd.int .i64) w A0_2 l0_2.length l0_2) (hc0_2 : l0_2.length ≤ c0_2) (hF1 : FnB Try.prog w F1 a1) (hr2 : Kd.C (Kd.slice 2 (Kd.int .i64)) w A2 l2.length l2) (hc2 : l2.length ≤ c2) (h : impl_ruleCode.f k a0_0 l0_1 l0_2 a1 l2 = some r) :
  Calls Try.prog 59 #[.agg #[.int .i64 a0_0, .slice A0_1 l0_1.length c0_1, .slice A0_2 l0_2.length c0_2], F1, .slice A2 l2.length c2] w fun e w' => e = .returned (.int .i64 r) ∧ Below w.heap.size w w' := by
 have hu51 := Try.underlying51
 have HR0_1 := zA hr0_1
 have HC0_1 := zA hc0_1
 clear hr0_1 hc0_1
 have HR0_2 := zA hr0_2
 have HC0_2 := zA hc0_2
 clear hr0_2 hc0_2
 obtain ⟨G1, fi1, ca1, rfl, hen1, hF1⟩ := hF1
 have hen1 : ∀ (args_ : Array Value) (w_ : World), (callFunc G1 args_).run Try.prog w_ = .ok (.enter G1 args_) w_ := hen1
 have HF1 := zA hF1
 clear hF1
 have HR2 := zA hr2
 have HC2 := zA hc2
 clear hr2 hc2
 have HB := zA (Below.refl w.heap.size w)
 have H : ((impl_IsRule.f k a0_0 l0_1 l0_2).bind fun t681 => (if t681 = true then ((impl_polyCode.f k a0_0 a1 l2).bind fun t682 => (some t682)) else (some 1))) = some r := h
 clear h
 replace H := Option.bind_eq_some_iff.mp H
 obtain ⟨t681, A40, H⟩ := H
 replace H : (if t681 = true then ((impl_polyCode.f k a0_0 a1 l2).bind fun t682 => (some t682)) else (some 1)) = some r := H
 have A4 := zA A40
 clear A40
 by_cases c5 : t681 = true
 ·subst c5
  have H1 : ((impl_polyCode.f k a0_0 a1 l2).bind fun t682 => (some t682)) = some r := by rw [if_pos rfl] at H; exact H
  clear H
  have H := H1
  clear H1
  replace H := Option.bind_eq_some_iff.mp H
  obtain ⟨t682, A60, H⟩ := H
  replace H : (some t682) = some r := H
  have A6 := zA A60
  clear A60
  obtain rfl := Option.some.inj H
  go_enter Try.func59, Try.ntmps59
  go_wp2_with (first | ((with_reducible refine gate_dst (N := 3) rfl ?_); refine bx 3 #[.int .i64 a0_0, .slice A0_1 l0_1.length c0_1, .slice A0_2 l0_2.length c0_2] 51 ?_; intro gb680 hg w7 hbox hb; have BK680 := zA (hbox); have GW680 := gq HB hg; have GE680 := gq HB hg; replace HB := xH HB hb; have := geI GE680; clear hb hbox hg; have hcz8_0 := bc BK680 0; have hcz8_1 := bc BK680 1; have hcz8_2 := bc BK680 2; have hfz8_0 := bf BK680 0; have hfz8_1 := bf BK680 1; have hfz8_2 := bf BK680 2) | ((with_reducible refine gate_callee (f := 55) rfl ?_); refine gL (some 8) Try.func55 #[.agg #[.int .i64 a0_0, .slice A0_1 l0_1.length c0_1, .slice A0_2 l0_2.length c0_2]] ?_; (with_reducible refine (impl_IsRule.calls k a0_0 _ _ l0_1 _ _ l0_2 true _ ?side1 ?side2 ?side3 ?side4 A4.out).mono ?_); (case side1 => exact uC ((Kd.C_below HR0_1.out HB.out))); (case side2 => exact HC0_1.out); (case side3 => exact uC ((Kd.C_below HR0_2.out HB.out))); (case side4 => exact HC0_2.out); rintro e w9 ⟨rfl, hb⟩; refine ⟨_, rfl, ?_⟩; replace BK680 := xB BK680 hb; replace HB := xH HB hb; (try clear hb); (try clear hb2); (try clear hk); (try clear hi); have hcz10_0 := bc BK680 0; have hcz10_1 := bc BK680 1; have hcz10_2 := bc BK680 2; have hfz10_0 := bf BK680 0; have hfz10_1 := bf BK680 1; have hfz10_2 := bf BK680 2) | ((with_reducible refine gate_callee (f := 67) rfl ?_); refine gL (some 14) Try.func67 #[.int .i64 a0_0, (.func (.func G1) fi1 ca1), .slice A2 l2.length c2] ?_; (with_reducible refine (impl_polyCode.calls k a0_0 _ a1 _ _ l2 t682 _ ?side1 ?side2 ?side3 A6.out).mono ?_); (case side1 => exact FnB.later (uH HB.out) (show FnB Try.prog w (.func (.func G1) fi1 ca1) a1 from ⟨_, _, _, rfl, hen1, HF1.out⟩)); (case side2 => exact uC ((Kd.C_below HR2.out HB.out))); (case side3 => exact HC2.out); rintro e w11 ⟨rfl, hb⟩; refine ⟨_, rfl, ?_⟩; replace BK680 := xB BK680 hb; replace HB := xH HB hb; (try clear hb); (try clear hb2); (try clear hk); (try clear hi)))
  go_ret
  exact ⟨by first | rfl | (simp [errW_none, errW_some] <;> rfl) | (simp [*, errW_none, errW_some] <;> rfl), uH HB.out⟩
 ·replace c5 := Bool.eq_false_iff.mpr c5
  subst c5
  have H1 : (some 1) = some r := by rw [if_neg (show ¬ (false = true) by decide)] at H; exact H
  clear H
  have H := H1
  clear H1
  obtain rfl := Option.some.inj H
  go_enter Try.func59, Try.ntmps59
  go_wp2_with (first | ((with_reducible refine gate_dst (N := 3) rfl ?_); refine bx 3 #[.int .i64 a0_0, .slice A0_1 l0_1.length c0_1, .slice A0_2 l0_2.length c0_2] 51 ?_; intro gb680 hg w12 hbox hb; have BK680 := zA (hbox); have GW680 := gq HB hg; have GE680 := gq HB hg; replace HB := xH HB hb; have := geI GE680; clear hb hbox hg; have hcz13_0 := bc BK680 0; have hcz13_1 := bc BK680 1; have hcz13_2 := bc BK680 2; have hfz13_0 := bf BK680 0; have hfz13_1 := bf BK680 1; have hfz13_2 := bf BK680 2) | ((with_reducible refine gate_callee (f := 55) rfl ?_); refine gL (some 8) Try.func55 #[.agg #[.int .i64 a0_0, .slice A0_1 l0_1.length c0_1, .slice A0_2 l0_2.length c0_2]] ?_; (with_reducible refine (impl_IsRule.calls k a0_0 _ _ l0_1 _ _ l0_2 false _ ?side1 ?side2 ?side3 ?side4 A4.out).mono ?_); (case side1 => exact uC ((Kd.C_below HR0_1.out HB.out))); (case side2 => exact HC0_1.out); (case side3 => exact uC ((Kd.C_below HR0_2.out HB.out))); (case side4 => exact HC0_2.out); rintro e w14 ⟨rfl, hb⟩; refine ⟨_, rfl, ?_⟩; replace BK680 := xB BK680 hb; replace HB := xH HB hb; (try clear hb); (try clear hb2); (try clear hk); (try clear hi)))
  go_ret
  exact ⟨by first | rfl | (simp [errW_none, errW_some] <;> rfl) | (simp [*, errW_none, errW_some] <;> rfl), uH HB.out⟩
/- Plain lemmas: rounds (Ev), wrapped sums, rests modulo p, lists read and written at an index. No program is in sight. -/
section
variable {α β : Type}
theorem Ev.pos {c : Prop} [Decidable c] {X Y : Nat → Option α} {r : α} (h : c) (e : Ev X r) : Ev (fun k => if c then X k else Y k) r := by
  simpa only [if_pos h] using e
theorem Ev.neg {c : Prop} [Decidable c] {X Y : Nat → Option α} {r : α} (h : ¬ c) (e : Ev Y r) : Ev (fun k => if c then X k else Y k) r := by
  simpa only [if_neg h] using e
theorem Ev.eq {x : Option α} {r : α} (h : x = some r) : Ev (fun _ => x) r := ⟨0, fun _ _ => h⟩
theorem Ev.some' {r s : α} (h : r = s) : Ev (fun _ => some r) s := ⟨0, fun _ _ => by rw [h]⟩
theorem Ev.bindE {x : Option α} {f : Nat → α → Option β} {a : α} {r : β} (h : x = some a) (e : Ev (fun n => f n a) r) : Ev (fun n => x.bind (f n)) r := by
  subst h; simpa using e
theorem Ev.cast {g : Nat → Option α} {r s : α} (h : Ev g r) (e : r = s) : Ev g s := e ▸ h
theorem Ev.fn {g : Nat → Option α} {r s : α} (h : Ev g r) (h' : Ev g s) : r = s := by
  obtain ⟨K, h⟩ := h
  obtain ⟨K', h'⟩ := h'
  have a := h (max K K') (by omega)
  have b := h' (max K K') (by omega)
  rw [a] at b
  exact Option.some.inj b
end

theorem ne_self {α : Type} [BEq α] [LawfulBEq α] (a : α) : ¬ ((a != a) = true) := by simp

theorem wrap_id {x : Int} (h0 : -9223372036854775808 ≤ x) (h1 : x < 9223372036854775808) : wrap64 x = x := by unfold wrap64; omega
theorem wsucc {i n : Nat} (h : i < n) (hn : n < 4611686018427387904) : wrap64 ((i : Int) + 1) = ((i + 1 : Nat) : Int) := by unfold wrap64; omega
theorem wadd {i j n : Nat} (h : i + j < n) (hn : n < 4611686018427387904) : wrap64 ((i : Int) + (j : Int)) = ((i + j : Nat) : Int) := by unfold wrap64; omega
theorem wpred {i : Nat} (h : 0 < i) (hn : i < 4611686018427387904) : wrap64 ((i : Int) - 1) = ((i - 1 : Nat) : Int) := by unfold wrap64; omega

theorem rd_nat (l : List Int) (i : Nat) : rd l (i : Int) = l.getD i 0 := by simp [rd]
theorem rdL_nat (l : List (List Int)) (i : Nat) : rd_L1 l (i : Int) = l.getD i [] := by simp [rd_L1]
theorem getD_mem {α : Type} {l : List α} {i : Nat} {d : α} (h : i < l.length) : l.getD i d ∈ l := by
  simp only [List.getD_eq_getElem?_getD, List.getElem?_eq_getElem h, Option.getD_some]; exact List.getElem_mem h
theorem toNat_nat (i : Nat) : ((i : Int)).toNat = i := rfl

/-- A length that is small. -/
abbrev Sm (n : Nat) : Prop := n ≤ 1048576

/-- Numbers modulo p. -/
def Nm (p : Int) (l : List Int) : Prop := ∀ x ∈ l, 0 ≤ x ∧ x < p
theorem Nm.nil (p : Int) : Nm p [] := fun x h => by cases h
theorem Nm.cons {p x : Int} {l : List Int} (h0 : 0 ≤ x) (h1 : x < p) (h : Nm p l) : Nm p (x :: l) := fun y hy => by
  rcases List.mem_cons.1 hy with rfl | hy
  · exact ⟨h0, h1⟩
  · exact h y hy
theorem Nm.append {p : Int} {l m : List Int} (h : Nm p l) (h' : Nm p m) : Nm p (l ++ m) := fun y hy => by
  rcases List.mem_append.1 hy with hy | hy
  · exact h y hy
  · exact h' y hy
theorem Nm.get {p : Int} {l : List Int} (h : Nm p l) {i : Nat} (hi : i < l.length) : 0 ≤ l.getD i 0 ∧ l.getD i 0 < p := h _ (getD_mem hi)
theorem Nm.getp {p : Int} {l : List Int} (h : Nm p l) (hp : 0 < p) (i : Nat) : 0 ≤ l.getD i 0 ∧ l.getD i 0 < p := by
  by_cases hi : i < l.length
  · exact h.get hi
  · rw [List.getD_eq_getElem?_getD, List.getElem?_eq_none (by omega)]; exact ⟨Int.le_refl _, hp⟩
theorem Nm.take {p : Int} {l : List Int} (h : Nm p l) (n : Nat) : Nm p (l.take n) := fun x hx => h x (List.mem_of_mem_take hx)
theorem Nm.drop {p : Int} {l : List Int} (h : Nm p l) (n : Nat) : Nm p (l.drop n) := fun x hx => h x (List.mem_of_mem_drop hx)
theorem Nm.set {p x : Int} {l : List Int} (h : Nm p l) (h0 : 0 ≤ x) (h1 : x < p) (i : Nat) : Nm p (l.set i x) := fun y hy => by
  rcases List.mem_or_eq_of_mem_set hy with hy | rfl
  · exact h y hy
  · exact ⟨h0, h1⟩
theorem Nm.zeros {p : Int} (hp : 0 < p) (n : Nat) : Nm p (List.replicate n 0) := fun x hx => by
  rw [(List.mem_replicate.1 hx).2]; exact ⟨Int.le_refl _, hp⟩
instance (p : Int) (l : List Int) : Decidable (Nm p l) := by unfold Nm; infer_instance

theorem wf64 {x : Int} (h : (Lit.int .i64 x).wf = true) : -9223372036854775808 ≤ x ∧ x ≤ 9223372036854775807 := by
  have h2 : IntKind.i64.min ≤ x ∧ x ≤ 9223372036854775807 := by simpa [Lit.wf] using h
  exact h2
/-- A modulus that the program may have (in its range; a prime or not). -/
structure Pm (p : Int) : Prop where
  two : 2 ≤ p
  top : p ≤ 10007
theorem Pm.pos {p : Int} (h : Pm p) : 0 < p := by have := h.two; omega
theorem Pm.ne {p : Int} (h : Pm p) : p ≠ 0 := by have := h.two; omega

theorem mulB {a b m n : Int} (ha : 0 ≤ a) (ha' : a ≤ m) (hb : 0 ≤ b) (hb' : b ≤ n) : 0 ≤ a * b ∧ a * b ≤ m * n :=
  ⟨Int.mul_nonneg ha hb, Int.mul_le_mul ha' hb' hb (by omega)⟩
/-- A product of two numbers modulo p. -/
theorem mulP {p a b : Int} (hp : Pm p) (ha : 0 ≤ a) (ha' : a < p) (hb : 0 ≤ b) (hb' : b < p) : 0 ≤ a * b ∧ a * b ≤ 100140049 := by
  have h1 := hp.top
  have h := mulB (m := 10007) (n := 10007) ha (by omega) hb (by omega)
  exact ⟨h.1, by omega⟩
theorem tmod_pos {a b : Int} (h : 0 ≤ a) : Int.tmod a b = a % b := Int.tmod_eq_emod_of_nonneg h
theorem emodB {p : Int} (hp : 0 < p) (x : Int) : 0 ≤ x % p ∧ x % p < p := ⟨Int.emod_nonneg _ (by omega), Int.emod_lt_of_pos _ hp⟩
/-- Go's '(x % p + p) % p' is the rest of x. -/
theorem go_mod {p x : Int} (hp : Pm p) : Int.tmod (wrap64 (Int.tmod x p + p)) p = x % p := by
  have h2 := hp.two
  have ht := hp.top
  have h := Int.tmod_eq_emod (a := x) (b := p)
  have hb := emodB hp.pos x
  have hn : ((p.natAbs : Nat) : Int) = p := by omega
  split at h
  · rw [h, Int.natCast_zero, wrap_id (by omega) (by omega), tmod_pos (by omega), show x % p - 0 + p = x % p + p from by omega, Int.add_emod_right, Int.emod_emod]
  · rw [h, hn, wrap_id (by omega) (by omega), tmod_pos (by omega), show x % p - p + p = x % p from by omega, Int.emod_emod]

/-- A list without noughts at its end. -/
def trim (l : List Int) : List Int := (l.reverse.dropWhile (· == 0)).reverse
theorem trim_nil : trim [] = [] := rfl
theorem trim_snoc_zero (l : List Int) : trim (l ++ [0]) = trim l := by simp [trim]
theorem trim_snoc (l : List Int) {x : Int} (h : x ≠ 0) : trim (l ++ [x]) = l ++ [x] := by simp [trim, h]
theorem snocInd {α : Type} {P : List α → Prop} (h0 : P []) (h1 : ∀ l x, P l → P (l ++ [x])) (l : List α) : P l := by
  have h : ∀ l : List α, P l.reverse := by
    intro l
    induction l with
    | nil => exact h0
    | cons x l ih => rw [List.reverse_cons]; exact h1 _ _ ih
  simpa using h l.reverse
theorem trim_sub (l : List Int) : ∃ n, l = trim l ++ List.replicate n 0 := by
  induction l using snocInd with
  | h0 => exact ⟨0, rfl⟩
  | h1 l x ih =>
    by_cases h : x = 0
    · subst h
      obtain ⟨n, hn⟩ := ih
      refine ⟨n + 1, ?_⟩
      rw [trim_snoc_zero, List.replicate_succ', ← List.append_assoc, ← hn]
    · exact ⟨0, by rw [trim_snoc l h]; simp⟩
/- Copies of lists; no condition. -/
theorem Sm0 : Sm ([] : List Int).length := by simp [Sm]
theorem Sm.take {l : List Int} (h : Sm l.length) (n : Nat) : Sm (l.take n).length := by unfold Sm at h ⊢; rw [List.length_take]; omega
theorem Sm.drop {l : List Int} (h : Sm l.length) (n : Nat) : Sm (l.drop n).length := by unfold Sm at h ⊢; rw [List.length_drop]; omega
theorem own_eq (l : List Int) (hl : Sm l.length) : spec_l01Own.f l = some l := by
  unfold spec_l01Own.f
  simp only [Option.bind_some, List.length_nil, List.nil_append]
  rw [if_pos (by unfold Sm at hl; omega)]
/- Primes and numbers modulo p: what the program and the reference compute of them. -/
theorem in_eq (a b c : Int) : spec_l01In.f a b c = some (decide (b ≤ a ∧ a ≤ c)) := by
  unfold spec_l01In.f
  by_cases h : b ≤ a
  · rw [if_pos h]; simp [h]
  · rw [if_neg h]; simp [h]
theorem within_eq (a b c : Int) : impl_within.f a b c = some (decide (b ≤ a ∧ a ≤ c)) := by
  unfold impl_within.f
  by_cases h : b ≤ a
  · rw [if_pos h]; simp [h]
  · rw [if_neg h]; simp [h]
theorem has_eq (p x : Int) : impl_field_has.f p x = some (decide (0 ≤ x ∧ x < p)) := by
  unfold impl_field_has.f
  by_cases h : 0 ≤ x
  · rw [if_pos h]; simp [h]
  · rw [if_neg h]; simp [h]
theorem mod_eq {p : Int} (hp : Pm p) (x : Int) : impl_field_mod.f p x = some (x % p) := by
  unfold impl_field_mod.f
  rw [if_neg hp.ne, go_mod hp]

/-! ### primes -/
def noDiv (p : Int) (i : Nat) : Prop := ∀ j, j < 101 → i ≤ j → (j : Int) * (j : Int) ≤ p → p % (j : Int) ≠ 0
instance (p : Int) (i : Nat) : Decidable (noDiv p i) := by unfold noDiv; infer_instance
def primeB (p : Int) : Bool := decide (2 ≤ p ∧ p ≤ 10007) && decide (noDiv p 2)
theorem primeB.pm {p : Int} (h : primeB p = true) : Pm p := by
  simp only [primeB, Bool.and_eq_true, decide_eq_true_eq] at h
  exact ⟨h.1.1, h.1.2⟩
theorem noDiv_succ {p : Int} {i : Nat} (h : p % (i : Int) ≠ 0) : decide (noDiv p i) = decide (noDiv p (i + 1)) := by
  apply decide_eq_decide.2
  constructor
  · exact fun g j h1 h2 h3 => g j h1 (by omega) h3
  · intro g j h1 h2 h3
    by_cases e : j = i
    · subst e; exact h
    · exact g j h1 (by omega) h3
theorem noDiv_big {p : Int} {i : Nat} (h : p < (i : Int) * (i : Int)) : noDiv p i := by
  intro j h1 h2 h3
  have := mulB (a := (i : Int)) (b := (i : Int)) (m := (j : Int)) (n := (j : Int)) (by omega) (by omega) (by omega) (by omega)
  omega
theorem sqB {i : Nat} (h : i ≤ 101) : 0 ≤ (i : Int) * (i : Int) ∧ (i : Int) * (i : Int) ≤ 10201 := by
  have := mulB (a := (i : Int)) (b := (i : Int)) (m := 101) (n := 101) (by omega) (by omega) (by omega) (by omega)
  omega
theorem specPrime_l0 {p : Int} (h2 : 2 ≤ p) (ht : p ≤ 10007) (d : Nat) : ∀ i, 2 ≤ i → i + d = 101 → Ev (fun k => spec_l01Prime.l0 k p (i : Int)) (decide (noDiv p i)) := by
  induction d with
  | zero =>
    intro i hi hd
    obtain rfl : i = 101 := by omega
    refine Ev.step (fun k => by rw [spec_l01Prime.l0]) ?_
    refine Ev.neg (by rw [wrap_id (by omega) (by omega)]; omega) (Ev.some' ?_)
    exact (decide_eq_true (noDiv_big (by omega))).symm
  | succ d ih =>
    intro i hi hd
    have hb := sqB (i := i) (by omega)
    refine Ev.step (fun k => by rw [spec_l01Prime.l0]) ?_
    rw [wrap_id (x := (i : Int) * (i : Int)) (by omega) (by omega), tmod_pos (by omega)]
    by_cases h : (i : Int) * (i : Int) ≤ p
    · refine Ev.pos h (Ev.neg (by omega) ?_)
      by_cases h3 : p % (i : Int) = 0
      · exact Ev.pos h3 (Ev.some' (decide_eq_false (fun g => g i (by omega) (by omega) h h3)).symm)
      · refine Ev.neg h3 ?_
        rw [noDiv_succ h3, wsucc (i := i) (n := 101) (by omega) (by omega)]
        exact ih (i + 1) (by omega) (by omega)
    · exact Ev.neg h (Ev.some' (decide_eq_true (noDiv_big (by omega))).symm)
theorem implPrime_l0 {p : Int} (h2 : 2 ≤ p) (ht : p ≤ 10007) (d : Nat) : ∀ i, 2 ≤ i → i + d = 101 → Ev (fun k => impl_IsPrime.l0 k p (i : Int)) (decide (noDiv p i)) := by
  induction d with
  | zero =>
    intro i hi hd
    obtain rfl : i = 101 := by omega
    refine Ev.step (fun k => by rw [impl_IsPrime.l0]) ?_
    refine Ev.neg (by rw [wrap_id (by omega) (by omega)]; omega) (Ev.some' ?_)
    exact (decide_eq_true (noDiv_big (by omega))).symm
  | succ d ih =>
    intro i hi hd
    have hb := sqB (i := i) (by omega)
    refine Ev.step (fun k => by rw [impl_IsPrime.l0]) ?_
    rw [wrap_id (x := (i : Int) * (i : Int)) (by omega) (by omega), tmod_pos (by omega)]
    by_cases h : (i : Int) * (i : Int) ≤ p
    · refine Ev.pos h (Ev.neg (by omega) ?_)
      by_cases h3 : p % (i : Int) = 0
      · exact Ev.pos h3 (Ev.some' (decide_eq_false (fun g => g i (by omega) (by omega) h h3)).symm)
      · refine Ev.neg h3 ?_
        rw [noDiv_succ h3, wsucc (i := i) (n := 101) (by omega) (by omega)]
        exact ih (i + 1) (by omega) (by omega)
    · exact Ev.neg h (Ev.some' (decide_eq_true (noDiv_big (by omega))).symm)
theorem specPrime_ev (p : Int) : Ev (fun k => spec_l01Prime.f k p) (primeB p) := by
  unfold spec_l01Prime.f primeB
  refine Ev.bindE (in_eq _ _ _) ?_
  by_cases h : 2 ≤ p ∧ p ≤ 10007
  · refine Ev.pos (decide_eq_true h) ?_
    rw [decide_eq_true h, Bool.true_and]
    exact specPrime_l0 h.1 h.2 99 2 (by omega) (by omega)
  · refine Ev.neg (by simp [h]) (Ev.some' ?_)
    rw [decide_eq_false h, Bool.false_and]
theorem implPrime_ev (p : Int) : Ev (fun k => impl_IsPrime.f k p) (primeB p) := by
  unfold impl_IsPrime.f primeB
  refine Ev.bindE (within_eq _ _ _) ?_
  by_cases h : 2 ≤ p ∧ p ≤ 10007
  · refine Ev.pos (decide_eq_true h) ?_
    rw [decide_eq_true h, Bool.true_and]
    exact implPrime_l0 h.1 h.2 99 2 (by omega) (by omega)
  · refine Ev.neg (by simp [h]) (Ev.some' ?_)
    rw [decide_eq_false h, Bool.false_and]

/-! ### numbers modulo p -/
theorem Nm_cons (p x : Int) (l : List Int) : Nm p (x :: l) ↔ (0 ≤ x ∧ x < p) ∧ Nm p l := by
  constructor
  · exact fun h => ⟨h x (List.mem_cons_self ..), fun y hy => h y (List.mem_cons_of_mem _ hy)⟩
  · exact fun h => Nm.cons h.1.1 h.1.2 h.2
theorem allO_has (p : Int) (l : List Int) : allO (fun z_ => impl_field_has.f p z_) l = some (decide (Nm p l)) := by
  induction l with
  | nil => simp only [allO]; rw [decide_eq_true (Nm.nil p)]
  | cons x l ih =>
    simp only [has_eq] at ih
    simp only [allO, has_eq, Option.bind_some]
    by_cases h : 0 ≤ x ∧ x < p
    · rw [if_pos (decide_eq_true h), ih]
      congr 1
      apply decide_eq_decide.2
      rw [Nm_cons]
      exact ⟨fun g => ⟨h, g⟩, fun g => g.2⟩
    · rw [if_neg (by simp [h])]
      congr 1
      exact (decide_eq_false (fun g => h ((Nm_cons p x l).1 g).1)).symm
theorem areAll_has (p : Int) (l : List Int) (hl : l.length < 4611686018427387904) : impl_areAll_int64.f l (fun z_ => impl_field_has.f p z_) = some (decide (Nm p l)) := by
  unfold impl_areAll_int64.f
  rw [if_pos hl, allO_has]
theorem Nm_drop {p : Int} {l : List Int} {i : Nat} (h : i < l.length) : Nm p (l.drop i) ↔ (0 ≤ l.getD i 0 ∧ l.getD i 0 < p) ∧ Nm p (l.drop (i + 1)) := by
  rw [drop_cons l 0 i h, Nm_cons]
/-! ### sums -/
def sumTo (g : Nat → Int) : Nat → Int
  | 0 => 0
  | n + 1 => sumTo g n + g n
/- Polynomials and the program's code for them; no condition. -/
/-! ### polynomials -/
def lastOk (l : List Int) : Bool := decide (l.length = 0) || (l.getD (l.length - 1) 0 != 0)
def polyB (p : Int) (l : List Int) : Bool := decide (Nm p l) && (decide (l.length ≤ 25) && lastOk l)
theorem lastPart (l : List Int) (hl : Sm l.length) :
    (if (l.length : Int) = 0 then (some true) else (if 0 ≤ (wrap64 ((l.length : Int) - 1)) then (if (wrap64 ((l.length : Int) - 1)) < (l.length : Int) then (some ((rd l (wrap64 ((l.length : Int) - 1))) != 0)) else none) else none)) = some (lastOk l) := by
  unfold lastOk
  by_cases h : l.length = 0
  · rw [if_pos (by omega)]; simp [h]
  · rw [if_neg (by omega), wpred (by omega) (by unfold Sm at hl; omega), if_pos (by omega), if_pos (by omega), rd_nat]
    simp [h]
theorem implPoly_eq (p : Int) (l : List Int) (hl : Sm l.length) : impl_IsPoly.f p l = some (polyB p l) := by
  unfold impl_IsPoly.f polyB
  by_cases h : l.length ≤ 25
  · rw [if_pos (by omega), areAll_has p l (by omega), Option.bind_some]
    by_cases hn : Nm p l
    · rw [if_pos (decide_eq_true hn), lastPart l hl]; simp [h, hn]
    · rw [if_neg (by simp [hn])]; simp [hn]
  · rw [if_neg (by omega)]; simp [h]
theorem allO_poly (p : Int) (ls : List (List Int)) (hl : ∀ l ∈ ls, Sm l.length) : allO (fun z_ => impl_polyCode_1.f z_ p) ls = some (ls.all (polyB p)) := by
  induction ls with
  | nil => rfl
  | cons l ls ih =>
    have e : impl_polyCode_1.f l p = some (polyB p l) := by
      unfold impl_polyCode_1.f
      rw [implPoly_eq p l (hl l (List.mem_cons_self ..))]; rfl
    simp only [allO, e, Option.bind_some, List.all_cons]
    by_cases h : polyB p l = true
    · rw [if_pos h, ih (fun m hm => hl m (List.mem_cons_of_mem _ hm)), h, Bool.true_and]
    · rw [if_neg h, Bool.eq_false_iff.2 h, Bool.false_and]
theorem polyCode_ev (p : Int) (b : Bool) (ls : List (List Int)) (hs : Sm ls.length) (hl : ∀ l ∈ ls, Sm l.length) :
    Ev (fun k => impl_polyCode.f k p b ls) (if ls.all (polyB p) then (if primeB p && b then 0 else 2) else 1) := by
  unfold impl_polyCode.f
  have e : impl_areAll_rows.f ls (fun z_ => impl_polyCode_1.f z_ p) = some (ls.all (polyB p)) := by
    unfold impl_areAll_rows.f
    rw [if_pos (by unfold Sm at hs; omega), allO_poly p ls hl]
  refine Ev.bindE e ?_
  by_cases h : ls.all (polyB p) = true
  · refine Ev.pos h (Ev.bind (implPrime_ev p) ?_)
    rw [if_pos h]
    cases primeB p <;> cases b <;> exact ⟨0, fun _ _ => rfl⟩
  · refine Ev.neg h (Ev.some' ?_)
    rw [if_neg h]
/- Short forms of rows that a great law's printed walk tells again and again; no condition. -/
open Go Go.RowKit Go.Proofs.YtjdannndpfkadaaW.PrintWords Go.Proofs.YtjdannndpfkadaaW.PrintLast Go.Proofs.YtjdannndpfkadaaW.PrintMore
section
variable {α β γ : Type} {d : Kd α} {d0 : Kd β} {d1 : Kd γ} {e e0 e1 base b0 : Nat} {ok ok0 ok1 : Nat → Prop} {W w w1 : World} {u v v0 v1 : Value} {xs : List α} {xs0 : List β} {xs1 : List γ}
theorem td2 (hu : d.R e W base ok u xs) (hb : Below W.heap.size W w1) (h0 : d0.R e0 w1 W.heap.size ok0 v0 xs0) (h1 : d1.R e1 w1 W.heap.size ok1 v1 xs1) : Aside0 (d.R e w1 base (fun k => (ok k ∧ some k ≠ v0.ownBlock) ∧ some k ≠ v1.ownBlock) u xs) :=
  zA (Kd.R_mono (Kd.R_told (Kd.R_told (Kd.R_old hu hb) (Kd.R_base h0)) (Kd.R_base h1)) (fun _ h => h.1))
theorem nw (h : d.R e w1 W.heap.size ok v xs) (h' : d0.R e0 W b0 ok0 u xs0) : d.R e w1 W.heap.size (fun k => ok k ∧ some k ≠ u.ownBlock) v xs := Kd.R_new' h (Kd.R_lt h')
theorem rc {A : Option Addr} {n c : Nat} (h : d.R e w base ok (.slice A n c) xs) : d.C w A xs.length xs := (Kd.R_reads' h).2.2
end
/-! ### laws_eqInt64S: function 20 -/
def laws_eqInt64S.l0 : Nat → List Int → List Int → Int → Option (Bool)
 | 0,_,_,_=>none
 | k + 1,x0,x1,x5=>if x5 < (x0.length : Int) then (if 0 ≤ x5 then (if x5 < (x1.length : Int) then (if (rd x0 x5) = (rd x1 x5) then (laws_eqInt64S.l0 k x0 x1 (wrap64 (x5 + 1))) else (some false)) else (none)) else (none)) else (some true)
def laws_eqInt64S.f (k : Nat) (l0 : List Int) (l1 : List Int) : Option (Bool):=if (l0.length : Int) = (l1.length : Int) then (laws_eqInt64S.l0 k l0 l1 0) else (some false)
set_option maxHeartbeats 8000000 in
set_option maxRecDepth 100000 in
theorem laws_eqInt64S.calls (k : Nat) (A0 : Option Addr) (c0 : Nat) (l0 : List Int) (A1 : Option Addr) (c1 : Nat) (l1 : List Int) (r : Bool) (w : World) (hr0 : Kd.C (Kd.int .i64) w A0 l0.length l0) (hc0 : l0.length ≤ c0) (hr1 : Kd.C (Kd.int .i64) w A1 l1.length l1) (hc1 : l1.length ≤ c1) (h : laws_eqInt64S.f k l0 l1 = some r) :
  Calls Try.prog 20 #[.slice A0 l0.length c0,.slice A1 l1.length c1] w fun e w'=>e = .returned (.bool r)∧Drawn0 w w':=by
 have HR0:=zA hr0
 have HC0:=zA hc0
 clear hr0 hc0
 have HR1:=zA hr1
 have HC1:=zA hc1
 clear hr1 hc1
 have H : (if (l0.length : Int) = (l1.length : Int) then (laws_eqInt64S.l0 k l0 l1 0) else (some false)) = some r:=h
 clear h
 by_cases c3 : (l0.length : Int) = (l1.length : Int)
 rotate_left
 ·rw [if_neg c3] at H
  have c3b0 : ((l0.length : Int) == (l1.length : Int)) = false:=beq_eq_false_iff_ne.mpr c3
  have c3b1 : ((l0.length : Int) != (l1.length : Int)) = true:=bne_iff_ne.mpr c3
  have c3b2 : (l0.length == l1.length) = false:=by first | simpa using c3 | (simp at c3 ⊢;omega)
  obtain rfl:=Option.some.inj H
  go_enter Try.func20,Try.ntmps20
  go_wp2
  repeat (go_quiet (fail);try go_wp2)
  go_ret
  exact ⟨by first | rfl | (simp;done) | (simp [*];done),by repeat (first | exact Drawn0.refl _ | apply Drawn0.step)⟩

 rw [if_pos c3] at H
 have c3b0 : ((l0.length : Int) == (l1.length : Int)) = true:=beq_iff_eq.mpr c3
 have c3b1 : ((l0.length : Int) != (l1.length : Int)) = false:=bne_eq_false_iff_eq.mpr c3
 have c3b2 : (l0.length == l1.length) = true:=by first | simpa using c3 | (simp at c3 ⊢;omega)
 clear c3
 have H':=zA H
 clear H
 go_enter Try.func20,Try.ntmps20
 go_wp2
 repeat (go_quiet (fail);try go_wp2)
 go_loopg [5] k (fun kq v5 w'=>∃ (x5_1 : Int),v5 = .int .i64 x5_1∧Aside0 (laws_eqInt64S.l0 kq l0 l1 x5_1 = some r)∧Aside0 (kq ≤ k)∧Drawn0 w w')
 case atStart=>exact ⟨(0),(by first | rfl | (simp;done) | (simp [*];done)),H',⟨Nat.le_refl _⟩,by repeat (first | exact Drawn0.refl _ | apply Drawn0.step)⟩
 case round =>
  clear H'
  (try clear c1);(try clear c2);(try clear p2);(try clear c3);(try clear c3b0);(try clear c3b1);(try clear c3b2)
  obtain ⟨x5_1,rfl,HA,HK1,⟨m1,rfl⟩⟩:=hrel
  cases gk with
  | zero=>exact absurd HA.out (by simp [laws_eqInt64S.l0])
  | succ k1 =>
   have H:=HA.out
   clear HA
   simp only [laws_eqInt64S.l0] at H
   by_cases c4 : x5_1 < (l0.length : Int)
   rotate_left
   ·rw [if_neg c4] at H
    have c4b0 : decide (x5_1 < (l0.length : Int)) = false:=decide_eq_false c4
    clear c4
    obtain rfl:=Option.some.inj H
    go_wp2
    repeat (go_quiet (fail);try go_wp2)
    go_ret
    exact ⟨by first | rfl | (simp;done) | (simp [*];done),by repeat (first | exact Drawn0.refl _ | apply Drawn0.step)⟩
   rw [if_pos c4] at H
   have c4b0 : decide (x5_1 < (l0.length : Int)) = true:=decide_eq_true c4
   clear c4
   by_cases c5 : 0 ≤ x5_1
   rotate_left
   ·rw [if_neg c5] at H
    exact absurd H (by simp)
   rw [if_pos c5] at H
   have c5b0 : decide (0 ≤ x5_1) = true:=decide_eq_true c5
   clear c5
   by_cases c6 : x5_1 < (l1.length : Int)
   rotate_left
   ·rw [if_neg c6] at H
    exact absurd H (by simp)
   rw [if_pos c6] at H
   have c6b0 : decide (x5_1 < (l1.length : Int)) = true:=decide_eq_true c6
   clear c6
   by_cases c7 : (rd l0 x5_1) = (rd l1 x5_1)
   rotate_left
   ·rw [if_neg c7] at H
    have c7b0 : ((rd l0 x5_1) == (rd l1 x5_1)) = false:=beq_eq_false_iff_ne.mpr c7
    have c7b1 : ((rd l0 x5_1) != (rd l1 x5_1)) = true:=bne_iff_ne.mpr c7
    obtain rfl:=Option.some.inj H
    have p204 : 0 ≤ (x5_1 : Int):=of_decide_eq_true (by first | (with_reducible assumption) | assumption)
    have q204 : x5_1 < (l0.length : Int):=of_decide_eq_true (by first | (with_reducible assumption) | assumption)
    obtain ⟨ad204,e204,hx204_0⟩:=Kd.at_int HR0.out x5_1 p204 q204
    cases e204
    replace p204:=eq_true p204
    replace q204:=eq_true q204
    have p205 : 0 ≤ (x5_1 : Int):=of_decide_eq_true (by first | (with_reducible assumption) | assumption)
    have q205 : x5_1 < (l1.length : Int):=of_decide_eq_true (by first | (with_reducible assumption) | assumption)
    obtain ⟨ad205,e205,hx205_0⟩:=Kd.at_int HR1.out x5_1 p205 q205
    cases e205
    replace p205:=eq_true p205
    replace q205:=eq_true q205
    go_wp2
    repeat (go_quiet (fail);try go_wp2)
    go_ret
    exact ⟨by first | rfl | (simp;done) | (simp [*];done),by repeat (first | exact Drawn0.refl _ | apply Drawn0.step)⟩
   rw [if_pos c7] at H
   have c7b0 : ((rd l0 x5_1) == (rd l1 x5_1)) = true:=beq_iff_eq.mpr c7
   have c7b1 : ((rd l0 x5_1) != (rd l1 x5_1)) = false:=bne_eq_false_iff_eq.mpr c7
   clear c7
   have H':=zA H
   clear H
   have p204 : 0 ≤ (x5_1 : Int):=of_decide_eq_true (by first | (with_reducible assumption) | assumption)
   have q204 : x5_1 < (l0.length : Int):=of_decide_eq_true (by first | (with_reducible assumption) | assumption)
   obtain ⟨ad204,e204,hx204_0⟩:=Kd.at_int HR0.out x5_1 p204 q204
   cases e204
   replace p204:=eq_true p204
   replace q204:=eq_true q204
   have p205 : 0 ≤ (x5_1 : Int):=of_decide_eq_true (by first | (with_reducible assumption) | assumption)
   have q205 : x5_1 < (l1.length : Int):=of_decide_eq_true (by first | (with_reducible assumption) | assumption)
   obtain ⟨ad205,e205,hx205_0⟩:=Kd.at_int HR1.out x5_1 p205 q205
   cases e205
   replace p205:=eq_true p205
   replace q205:=eq_true q205
   go_wp2
   repeat (go_quiet (fail);try go_wp2)
   go_roundg k1
   case measure=>have:=HK1.out;omega
   case rel=>exact ⟨(wrap64 (x5_1 + 1)),(by first | rfl | (simp;done) | (simp [*];done)),H',⟨by have:=HK1.out;omega⟩,by repeat (first | exact Drawn0.refl _ | apply Drawn0.step)⟩
end Go.Proofs.Ytjdannndpfkadaa.Pr
