/- Texts of this session in one: what functions of the program compute, and plain facts of it, under the conditions that each theorem names. -/
import Derived.Test.YtjdannndpfkadaaKMoveRule1
import Derived.Test.YtjdannndpfkadaaKMoveRule2
import Derived.Test.YtjdannndpfkadaaKMoveRule4
namespace Go.Proofs.Ytjdannndpfkadaa.Pr
open Go.RowKit Go.Proofs.YtjdannndpfkadaaW.PrintWords Go.Proofs.YtjdannndpfkadaaW.PrintLast Go.Proofs.YtjdannndpfkadaaW.PrintMore
attribute [local go_sem] max2_int min2_int max_two min_two max_three min_three max_four min_four   -- for this text's walks alone
set_option linter.unusedVariables false
set_option linter.unusedSimpArgs false
/-! ### impl_IsJacobi: function 63 -/
def impl_IsJacobi.f (k : Nat) (a0_0 : Int) (l0_1 : List Int) (l0_2 : List Int) : Option (Bool) := (impl_IsPrime.f k a0_0).bind fun t167 => (if t167 = true then ((impl_Jacobi_size.f a0_0 l0_1 l0_2).bind fun t168 => ((impl_within.f t168 1 12).bind fun t169 => (if t169 = true then (if (l0_2.length : Int) = (l0_1.length : Int) then ((impl_Jacobi_field.f a0_0 l0_1 l0_2).bind fun t170 => ((impl_areAll_int64.f l0_1 (fun z_ => impl_field_has.f t170 z_)).bind fun t171 => (if t171 = true then ((impl_Jacobi_field.f a0_0 l0_1 l0_2).bind fun t172 => ((impl_areAll_int64.f l0_2 (fun z_ => impl_field_isUnit.f t172 z_)).bind fun t173 => (some t173))) else (some false)))) else (some false)) else (some false)))) else (some false))
theorem impl_IsJacobi.mono : ∀ a0 a1 a2 k, LeO (impl_IsJacobi.f k a0 a1 a2) (impl_IsJacobi.f (k + 1) a0 a1 a2) := by
 intro a0 a1 a2 k
 unfold impl_IsJacobi.f
 repeat' first
   | (with_reducible exact impl_IsPrime.mono _ _)
   | (with_reducible exact LeO.refl _)
   | (with_reducible exact LeO.none _)
   | (with_reducible refine LeO.ite ?_ ?_)
   | (with_reducible refine LeO.bind ?_ (fun _ => ?_))
   | exact impl_IsPrime.mono _ _
   | exact LeO.none _
   | refine LeO.ite ?_ ?_
   | refine LeO.bind ?_ (fun _ => ?_)
def impl_IsJacobi.T1 : Bool × List (List Nat × List Nat) := (true, [([], []), ([0], [0]), ([1], [1]), ([2, 2], [2]), ([3], [3]), ([4, 3, 3], [3, 4]), ([5, 5, 3], [3, 5]), ([3, 6], [3, 6]), ([7, 6], [7]), ([8], [8]), ([9, 8], [8, 9]), ([10, 8], [8, 10]), ([8], [8]), ([12, 8], [8, 12]), ([13, 8], [8, 13]), ([11, 14, 8], [8, 11, 14]), ([8, 15], [8, 15]), ([16, 8], [16]), ([17], [17]), ([18, 17], [17, 18]), ([17], [17]), ([20, 17, 17], [17, 20]), ([21, 17], [17, 21]), ([19, 22, 21, 17], [17, 19, 22]), ([17, 23], [17, 23]), ([24, 23], [24]), ([25], [25]), ([26, 25], [25, 26]), ([25], [25]), ([28, 25, 25], [25, 28]), ([29, 25], [25, 29]), ([27, 30, 29, 25], [25, 27, 30]), ([25, 31], [25, 31]), ([32, 31, 0, 1, 2, 3, 4, 5, 6, 7, 8, 9, 10, 11, 12, 13, 14, 15, 16, 17, 18, 19, 20, 21, 22, 23, 24, 25, 26, 27, 28, 29, 30, 31, 32], [32])])
def impl_IsJacobi.B1 : List Nat := [0, 1, 3, 7, 15, 31, 63, 127, 255, 511, 1023, 2047, 511, 4607, 12799, 32767, 65535, 131071, 262143, 524287, 262143, 1310719, 3407871, 8388607, 16777215, 33554431, 67108863, 134217727, 67108863, 335544319, 872415231, 2147483647, 4294967295, 8589934591]
theorem impl_IsJacobi.tab1 : rtab .any (opsOf Try.f63 1) = impl_IsJacobi.T1 := by kernel_rfl
theorem impl_IsJacobi.bits1 : waitsOk impl_IsJacobi.T1.2 impl_IsJacobi.B1 = true := by kernel_rfl
set_option maxHeartbeats 8000000 in
set_option maxRecDepth 100000 in
theorem impl_IsJacobi.calls (k : Nat) (a0_0 : Int) (A0_1 : Option Addr) (c0_1 : Nat) (l0_1 : List Int) (A0_2 : Option Addr) (c0_2 : Nat) (l0_2 : List Int) (r : Bool) (w : World) (hr0_1 : Kd.C (Kd.int .i64) w A0_1 l0_1.length l0_1) (hc0_1 : l0_1.length ≤ c0_1) (hr0_2 : Kd.C (Kd.int .i64) w A0_2 l0_2.length l0_2) (hc0_2 : l0_2.length ≤ c0_2) (h : impl_IsJacobi.f k a0_0 l0_1 l0_2 = some r) :
  Calls Try.prog 63 #[.agg #[.int .i64 a0_0, .slice A0_1 l0_1.length c0_1, .slice A0_2 l0_2.length c0_2]] w fun e w' => e = .returned (.bool r) ∧ Below w.heap.size w w' := by
 have hu29 := Try.underlying29
 have hmf : ∀ (fn_ : Fn) (first_ cap_ : Array Value) (w_ : World), (Instr.makeFunc fn_ first_ cap_).run Try.prog w_ = .ok (.func fn_ first_ cap_) w_ := fun _ _ _ _ => rfl
 have HR0_1 := zA hr0_1
 have HC0_1 := zA hc0_1
 clear hr0_1 hc0_1
 have HR0_2 := zA hr0_2
 have HC0_2 := zA hc0_2
 clear hr0_2 hc0_2
 have HB := zA (Below.refl w.heap.size w)
 have H : ((impl_IsPrime.f k a0_0).bind fun t167 => (if t167 = true then ((impl_Jacobi_size.f a0_0 l0_1 l0_2).bind fun t168 => ((impl_within.f t168 1 12).bind fun t169 => (if t169 = true then (if (l0_2.length : Int) = (l0_1.length : Int) then ((impl_Jacobi_field.f a0_0 l0_1 l0_2).bind fun t170 => ((impl_areAll_int64.f l0_1 (fun z_ => impl_field_has.f t170 z_)).bind fun t171 => (if t171 = true then ((impl_Jacobi_field.f a0_0 l0_1 l0_2).bind fun t172 => ((impl_areAll_int64.f l0_2 (fun z_ => impl_field_isUnit.f t172 z_)).bind fun t173 => (some t173))) else (some false)))) else (some false)) else (some false)))) else (some false))) = some r := h
 clear h
 replace H := Option.bind_eq_some_iff.mp H
 obtain ⟨t167, A20, H⟩ := H
 replace H : (if t167 = true then ((impl_Jacobi_size.f a0_0 l0_1 l0_2).bind fun t168 => ((impl_within.f t168 1 12).bind fun t169 => (if t169 = true then (if (l0_2.length : Int) = (l0_1.length : Int) then ((impl_Jacobi_field.f a0_0 l0_1 l0_2).bind fun t170 => ((impl_areAll_int64.f l0_1 (fun z_ => impl_field_has.f t170 z_)).bind fun t171 => (if t171 = true then ((impl_Jacobi_field.f a0_0 l0_1 l0_2).bind fun t172 => ((impl_areAll_int64.f l0_2 (fun z_ => impl_field_isUnit.f t172 z_)).bind fun t173 => (some t173))) else (some false)))) else (some false)) else (some false)))) else (some false)) = some r := H
 have A2 := zA A20
 clear A20
 by_cases c3 : t167 = true
 ·subst c3
  have H1 : ((impl_Jacobi_size.f a0_0 l0_1 l0_2).bind fun t168 => ((impl_within.f t168 1 12).bind fun t169 => (if t169 = true then (if (l0_2.length : Int) = (l0_1.length : Int) then ((impl_Jacobi_field.f a0_0 l0_1 l0_2).bind fun t170 => ((impl_areAll_int64.f l0_1 (fun z_ => impl_field_has.f t170 z_)).bind fun t171 => (if t171 = true then ((impl_Jacobi_field.f a0_0 l0_1 l0_2).bind fun t172 => ((impl_areAll_int64.f l0_2 (fun z_ => impl_field_isUnit.f t172 z_)).bind fun t173 => (some t173))) else (some false)))) else (some false)) else (some false)))) = some r := by rw [if_pos rfl] at H; exact H
  clear H
  have H := H1
  clear H1
  replace H := Option.bind_eq_some_iff.mp H
  obtain ⟨t168, A40, H⟩ := H
  replace H : ((impl_within.f t168 1 12).bind fun t169 => (if t169 = true then (if (l0_2.length : Int) = (l0_1.length : Int) then ((impl_Jacobi_field.f a0_0 l0_1 l0_2).bind fun t170 => ((impl_areAll_int64.f l0_1 (fun z_ => impl_field_has.f t170 z_)).bind fun t171 => (if t171 = true then ((impl_Jacobi_field.f a0_0 l0_1 l0_2).bind fun t172 => ((impl_areAll_int64.f l0_2 (fun z_ => impl_field_isUnit.f t172 z_)).bind fun t173 => (some t173))) else (some false)))) else (some false)) else (some false))) = some r := H
  have A4 := zA A40
  clear A40
  replace H := Option.bind_eq_some_iff.mp H
  obtain ⟨t169, A50, H⟩ := H
  replace H : (if t169 = true then (if (l0_2.length : Int) = (l0_1.length : Int) then ((impl_Jacobi_field.f a0_0 l0_1 l0_2).bind fun t170 => ((impl_areAll_int64.f l0_1 (fun z_ => impl_field_has.f t170 z_)).bind fun t171 => (if t171 = true then ((impl_Jacobi_field.f a0_0 l0_1 l0_2).bind fun t172 => ((impl_areAll_int64.f l0_2 (fun z_ => impl_field_isUnit.f t172 z_)).bind fun t173 => (some t173))) else (some false)))) else (some false)) else (some false)) = some r := H
  have A5 := zA A50
  clear A50
  by_cases c6 : t169 = true
  ·subst c6
   have H1 : (if (l0_2.length : Int) = (l0_1.length : Int) then ((impl_Jacobi_field.f a0_0 l0_1 l0_2).bind fun t170 => ((impl_areAll_int64.f l0_1 (fun z_ => impl_field_has.f t170 z_)).bind fun t171 => (if t171 = true then ((impl_Jacobi_field.f a0_0 l0_1 l0_2).bind fun t172 => ((impl_areAll_int64.f l0_2 (fun z_ => impl_field_isUnit.f t172 z_)).bind fun t173 => (some t173))) else (some false)))) else (some false)) = some r := by rw [if_pos rfl] at H; exact H
   clear H
   have H := H1
   clear H1
   by_cases c7 : (l0_2.length : Int) = (l0_1.length : Int)
   rotate_left
   ·rw [if_neg c7] at H
    have c7b0 : ((l0_2.length : Int) == (l0_1.length : Int)) = false := beq_eq_false_iff_ne.mpr c7
    have c7b1 : ((l0_2.length : Int) != (l0_1.length : Int)) = true := bne_iff_ne.mpr c7
    have c7b2 : (l0_2.length == l0_1.length) = false := by first | simpa using c7 | (simp at c7 ⊢; omega)
    obtain rfl := Option.some.inj H
    go_enter Try.func63, Try.ntmps63
    try go_wp2_with (first | ((with_reducible refine gate_dst (N := 1) rfl ?_); (try (refine gate_guard (by rfl) ?_; dsimp only)); refine bx 1 #[.int .i64 a0_0, .slice A0_1 l0_1.length c0_1, .slice A0_2 l0_2.length c0_2] 29 ?_; intro gb166 hg w25 hbox hb; have BK166 := zA (hbox); have GW166 := gq HB hg; have GE166 := gq HB hg; replace HB := xH HB hb; have := geI GE166; clear hb hbox hg))
    replace BK166 := zA (blk_drew BK166.out)
    replace HB := zA (below_drew1 HB.out)
    refine start_ (n := 34) (S := fun w' => w'.cell? ⟨gb166, 0, none⟩ = some (.int .i64 a0_0) ∧ w'.cell? ⟨gb166, 1, none⟩ = some (.slice A0_1 l0_1.length c0_1) ∧ w'.cell? ⟨gb166, 2, none⟩ = some (.slice A0_2 l0_2.length c0_2)) (ds := []) #[false, false, false, false, false, false, false, false, false, false, false, false, false, false, false, false, false, false, false, false, false, false, false, false, false, false, false, false, false, false, false, false, false, false] (by kernel_rfl) rfl rfl ⟨bcu BK166 0, bcu BK166 1, bcu BK166 2⟩ (fun hHeld => ?_); refine with_tabW impl_IsJacobi.tab1 impl_IsJacobi.bits1 (fun HT_ HW_ => ?_)
    generalize w25.drew = w26 at BK166 HB hHeld ⊢
    refine pu_ 0 3 (bl 34 1) HT_ ?_
    refine ta_ 1 4 (bl 34 3) HT_ HW_ hHeld ?_
    refine on_ 2 (some 5) (bl 34 7) HT_ (fun K hK => ?_)
    refine gS Try.func77 #[.int .i64 a0_0] ?_
    with_reducible refine (impl_IsPrime.calls k a0_0 true _ A2.out).mono ?_
    rintro e w' ⟨rfl, ⟨nd, rfl⟩⟩
    refine ⟨_, rfl, ?_⟩
    refine hK.out _ _ ⟨bcu BK166 0, bcu BK166 1, bcu BK166 2⟩ (fun hHeld => ?_)
    clear hK K
    refine no_ 5 ?_
    refine pu_ 3 6 (bl 34 15) HT_ ?_
    refine ta_ 4 7 (bl 34 31) HT_ HW_ hHeld ?_
    refine on_ 5 (some 8) (bl 34 63) HT_ (fun K hK => ?_)
    refine gS Try.func78 #[.agg #[.int .i64 a0_0, .slice A0_1 l0_1.length c0_1, .slice A0_2 l0_2.length c0_2]] ?_
    with_reducible refine (impl_Jacobi_size.calls a0_0 _ _ l0_1 _ _ l0_2 t168 _ ?side1 ?side2 ?side3 ?side4 A4.out).mono ?_
    (case side1 => repeat (first | exact (Kd.C_below HR0_1.out (uH HB.out)) | (with_reducible refine Kd.C_alloc ?_ _) | (with_reducible refine Kd.C_drewN ?_ _) | (with_reducible refine Kd.C_drew ?_)))
    (case side2 => exact HC0_1.out)
    (case side3 => repeat (first | exact (Kd.C_below HR0_2.out (uH HB.out)) | (with_reducible refine Kd.C_alloc ?_ _) | (with_reducible refine Kd.C_drewN ?_ _) | (with_reducible refine Kd.C_drew ?_)))
    (case side4 => exact HC0_2.out)
    rintro e w27 ⟨rfl, hb⟩
    refine ⟨_, rfl, ?_⟩
    replace BK166 := xB BK166 hb
    replace HB := xH HB hb
    (try clear hb); (try clear hb2); (try clear hk); (try clear hi)
    refine hK.out _ _ ⟨bcu BK166 0, bcu BK166 1, bcu BK166 2⟩ (fun hHeld => ?_)
    clear hK K
    refine no_ 8 ?_
    refine on_ 6 (some 9) (bl 34 127) HT_ (fun K hK => ?_)
    refine gS Try.func76 #[.int .i64 t168, .int .i64 1, .int .i64 12] ?_
    with_reducible refine (impl_within.calls t168 1 12 true _ A5.out).mono ?_
    rintro e w' ⟨rfl, ⟨nd, rfl⟩⟩
    refine ⟨_, rfl, ?_⟩
    refine hK.out _ _ ⟨bcu BK166 0, bcu BK166 1, bcu BK166 2⟩ (fun hHeld => ?_)
    clear hK K
    refine no_ 9 ?_
    refine pu_ 7 10 (bl 34 255) HT_ ?_
    refine pu_ 8 11 (bl 34 511) HT_ ?_
    refine pu_ 9 12 (bl 34 1023) HT_ ?_
    refine pu_ 12 15 (bl 34 5119) HT_ ?_
    refine ta_ 10 13 (bl 34 6143) HT_ HW_ hHeld ?_
    refine pu_ 11 14 (bl 34 8191) HT_ ?_
    refine ta_ 13 16 (bl 34 16383) HT_ HW_ hHeld ?_
    refine pu_ 14 17 (bl 34 32767) HT_ ?_
    refine pu_ 15 18 (bl 34 65535) HT_ ?_
    refine pu_ 16 19 (bl 34 131071) HT_ ?_
    refine pu_ 17 20 (bl 34 262143) HT_ ?_
    refine un_ 18 21 (bl 34 524287) HT_ ?_
    refine un_ 19 22 (bl 34 1048575) HT_ ?_
    refine un_ 20 23 (bl 34 2097151) HT_ ?_
    refine un_ 21 24 (bl 34 4194303) HT_ ?_
    refine un_ 22 25 (bl 34 8388607) HT_ ?_
    refine un_ 23 26 (bl 34 16777215) HT_ ?_
    refine pu_ 24 27 (bl 34 33554431) HT_ ?_
    refine pu_ 25 28 (bl 34 67108863) HT_ ?_
    refine un_ 26 29 (bl 34 134217727) HT_ ?_
    refine un_ 27 30 (bl 34 268435455) HT_ ?_
    refine un_ 28 31 (bl 34 536870911) HT_ ?_
    refine un_ 29 32 (bl 34 1073741823) HT_ ?_
    refine un_ 30 33 (bl 34 2147483647) HT_ ?_
    refine un_ 31 34 (bl 34 4294967295) HT_ ?_
    refine pu_ 32 35 (bl 34 8589934591) HT_ ?_
    refine pu_ 33 2 (bl 34 17179869183) HT_ ?_
    refine done_ (done_of HT_.out (by kernel_rfl)) ?_
    try go_wp2
    go_ret
    exact ⟨by first | rfl | (simp [errW_none, errW_some] <;> rfl) | (simp [*, errW_none, errW_some] <;> rfl), uH HB.out⟩
   rw [if_pos c7] at H
   have c7b0 : ((l0_2.length : Int) == (l0_1.length : Int)) = true := beq_iff_eq.mpr c7
   have c7b1 : ((l0_2.length : Int) != (l0_1.length : Int)) = false := bne_eq_false_iff_eq.mpr c7
   have c7b2 : (l0_2.length == l0_1.length) = true := by first | simpa using c7 | (simp at c7 ⊢; omega)
   clear c7
   replace H := Option.bind_eq_some_iff.mp H
   obtain ⟨t170, A80, H⟩ := H
   replace H : ((impl_areAll_int64.f l0_1 (fun z_ => impl_field_has.f t170 z_)).bind fun t171 => (if t171 = true then ((impl_Jacobi_field.f a0_0 l0_1 l0_2).bind fun t172 => ((impl_areAll_int64.f l0_2 (fun z_ => impl_field_isUnit.f t172 z_)).bind fun t173 => (some t173))) else (some false))) = some r := H
   have A8 := zA A80
   clear A80
   replace H := Option.bind_eq_some_iff.mp H
   obtain ⟨t171, A90, H⟩ := H
   replace H : (if t171 = true then ((impl_Jacobi_field.f a0_0 l0_1 l0_2).bind fun t172 => ((impl_areAll_int64.f l0_2 (fun z_ => impl_field_isUnit.f t172 z_)).bind fun t173 => (some t173))) else (some false)) = some r := H
   have A9 := zA A90
   clear A90
   by_cases c10 : t171 = true
   ·subst c10
    have H1 : ((impl_Jacobi_field.f a0_0 l0_1 l0_2).bind fun t172 => ((impl_areAll_int64.f l0_2 (fun z_ => impl_field_isUnit.f t172 z_)).bind fun t173 => (some t173))) = some r := by rw [if_pos rfl] at H; exact H
    clear H
    have H := H1
    clear H1
    replace H := Option.bind_eq_some_iff.mp H
    obtain ⟨t172, A110, H⟩ := H
    replace H : ((impl_areAll_int64.f l0_2 (fun z_ => impl_field_isUnit.f t172 z_)).bind fun t173 => (some t173)) = some r := H
    have A11 := zA A110
    clear A110
    replace H := Option.bind_eq_some_iff.mp H
    obtain ⟨t173, A120, H⟩ := H
    replace H : (some t173) = some r := H
    have A12 := zA A120
    clear A120
    obtain rfl := Option.some.inj H
    go_enter Try.func63, Try.ntmps63
    try go_wp2_with (first | ((with_reducible refine gate_dst (N := 1) rfl ?_); (try (refine gate_guard (by rfl) ?_; dsimp only)); refine bx 1 #[.int .i64 a0_0, .slice A0_1 l0_1.length c0_1, .slice A0_2 l0_2.length c0_2] 29 ?_; intro gb166 hg w13 hbox hb; have BK166 := zA (hbox); have GW166 := gq HB hg; have GE166 := gq HB hg; replace HB := xH HB hb; have := geI GE166; clear hb hbox hg))
    replace BK166 := zA (blk_drew BK166.out)
    replace HB := zA (below_drew1 HB.out)
    refine start_ (n := 34) (S := fun w' => w'.cell? ⟨gb166, 0, none⟩ = some (.int .i64 a0_0) ∧ w'.cell? ⟨gb166, 1, none⟩ = some (.slice A0_1 l0_1.length c0_1) ∧ w'.cell? ⟨gb166, 2, none⟩ = some (.slice A0_2 l0_2.length c0_2)) (ds := []) #[false, false, false, false, false, false, false, false, false, false, false, false, false, false, false, false, false, false, false, false, false, false, false, false, false, false, false, false, false, false, false, false, false, false] (by kernel_rfl) rfl rfl ⟨bcu BK166 0, bcu BK166 1, bcu BK166 2⟩ (fun hHeld => ?_); refine with_tabW impl_IsJacobi.tab1 impl_IsJacobi.bits1 (fun HT_ HW_ => ?_)
    generalize w13.drew = w14 at BK166 HB hHeld ⊢
    refine pu_ 0 3 (bl 34 1) HT_ ?_
    refine ta_ 1 4 (bl 34 3) HT_ HW_ hHeld ?_
    refine on_ 2 (some 5) (bl 34 7) HT_ (fun K hK => ?_)
    refine gS Try.func77 #[.int .i64 a0_0] ?_
    with_reducible refine (impl_IsPrime.calls k a0_0 true _ A2.out).mono ?_
    rintro e w' ⟨rfl, ⟨nd, rfl⟩⟩
    refine ⟨_, rfl, ?_⟩
    refine hK.out _ _ ⟨bcu BK166 0, bcu BK166 1, bcu BK166 2⟩ (fun hHeld => ?_)
    clear hK K
    refine no_ 5 ?_
    refine pu_ 3 6 (bl 34 15) HT_ ?_
    refine ta_ 4 7 (bl 34 31) HT_ HW_ hHeld ?_
    refine on_ 5 (some 8) (bl 34 63) HT_ (fun K hK => ?_)
    refine gS Try.func78 #[.agg #[.int .i64 a0_0, .slice A0_1 l0_1.length c0_1, .slice A0_2 l0_2.length c0_2]] ?_
    with_reducible refine (impl_Jacobi_size.calls a0_0 _ _ l0_1 _ _ l0_2 t168 _ ?side1 ?side2 ?side3 ?side4 A4.out).mono ?_
    (case side1 => repeat (first | exact (Kd.C_below HR0_1.out (uH HB.out)) | (with_reducible refine Kd.C_alloc ?_ _) | (with_reducible refine Kd.C_drewN ?_ _) | (with_reducible refine Kd.C_drew ?_)))
    (case side2 => exact HC0_1.out)
    (case side3 => repeat (first | exact (Kd.C_below HR0_2.out (uH HB.out)) | (with_reducible refine Kd.C_alloc ?_ _) | (with_reducible refine Kd.C_drewN ?_ _) | (with_reducible refine Kd.C_drew ?_)))
    (case side4 => exact HC0_2.out)
    rintro e w15 ⟨rfl, hb⟩
    refine ⟨_, rfl, ?_⟩
    replace BK166 := xB BK166 hb
    replace HB := xH HB hb
    (try clear hb); (try clear hb2); (try clear hk); (try clear hi)
    refine hK.out _ _ ⟨bcu BK166 0, bcu BK166 1, bcu BK166 2⟩ (fun hHeld => ?_)
    clear hK K
    refine no_ 8 ?_
    refine on_ 6 (some 9) (bl 34 127) HT_ (fun K hK => ?_)
    refine gS Try.func76 #[.int .i64 t168, .int .i64 1, .int .i64 12] ?_
    with_reducible refine (impl_within.calls t168 1 12 true _ A5.out).mono ?_
    rintro e w' ⟨rfl, ⟨nd, rfl⟩⟩
    refine ⟨_, rfl, ?_⟩
    refine hK.out _ _ ⟨bcu BK166 0, bcu BK166 1, bcu BK166 2⟩ (fun hHeld => ?_)
    clear hK K
    refine no_ 9 ?_
    refine pu_ 7 10 (bl 34 255) HT_ ?_
    refine pu_ 8 11 (bl 34 511) HT_ ?_
    refine pu_ 9 12 (bl 34 1023) HT_ ?_
    refine pu_ 12 15 (bl 34 5119) HT_ ?_
    refine ta_ 10 13 (bl 34 6143) HT_ HW_ hHeld ?_
    refine pu_ 11 14 (bl 34 8191) HT_ ?_
    refine ta_ 13 16 (bl 34 16383) HT_ HW_ hHeld ?_
    refine pu_ 14 17 (bl 34 32767) HT_ ?_
    refine pu_ 15 18 (bl 34 65535) HT_ ?_
    refine pu_ 16 19 (bl 34 131071) HT_ ?_
    refine pu_ 17 20 (bl 34 262143) HT_ ?_
    refine pu_ 18 21 (bl 34 524287) HT_ ?_
    refine ta_ 19 22 (bl 34 1048575) HT_ HW_ hHeld ?_
    refine ta_ 20 23 (bl 34 2097151) HT_ HW_ hHeld ?_
    refine on_ 21 (some 24) (bl 34 4194303) HT_ (fun K hK => ?_)
    refine gS Try.func79 #[.agg #[.int .i64 a0_0, .slice A0_1 l0_1.length c0_1, .slice A0_2 l0_2.length c0_2]] ?_
    with_reducible refine (impl_Jacobi_field.calls a0_0 _ _ l0_1 _ _ l0_2 t170 _ ?side1 ?side2 ?side3 ?side4 A8.out).mono ?_
    (case side1 => repeat (first | exact (Kd.C_below HR0_1.out (uH HB.out)) | (with_reducible refine Kd.C_alloc ?_ _) | (with_reducible refine Kd.C_drewN ?_ _) | (with_reducible refine Kd.C_drew ?_)))
    (case side2 => exact HC0_1.out)
    (case side3 => repeat (first | exact (Kd.C_below HR0_2.out (uH HB.out)) | (with_reducible refine Kd.C_alloc ?_ _) | (with_reducible refine Kd.C_drewN ?_ _) | (with_reducible refine Kd.C_drew ?_)))
    (case side4 => exact HC0_2.out)
    rintro e w16 ⟨rfl, hb⟩
    refine ⟨_, rfl, ?_⟩
    replace BK166 := xB BK166 hb
    replace HB := xH HB hb
    (try clear hb); (try clear hb2); (try clear hk); (try clear hi)
    refine hK.out _ _ ⟨bcu BK166 0, bcu BK166 1, bcu BK166 2⟩ (fun hHeld => ?_)
    clear hK K
    refine no_ 24 ?_
    refine pu_ 22 25 (bl 34 8388607) HT_ ?_
    refine on_ 23 (some 26) (bl 34 16777215) HT_ (fun K hK => ?_)
    refine gS Try.func68 #[.slice A0_1 l0_1.length c0_1, (.func (.func 57) #[.int .i64 t170] #[])] ?_
    with_reducible refine (impl_areAll_int64.calls _ _ l0_1 _ (fun z_ => impl_field_has.f t170 z_) true _ ?side1 ?side2 ?side3 A9.out).mono ?_
    (case side1 => exact uC ((Kd.C_below HR0_1.out HB.out)))
    (case side2 => exact HC0_1.out)
    (case side3 => exact FnI.of Try.func57 (by kernel_rfl) rfl (fun z_ r_ hr_ W_ hW_ => calls_of_args (args' := #[.int .i64 t170, .int .i64 z_]) (by simp) ((impl_field_has.calls t170 z_ r_ W_  hr_).mono fun e_ W2_ h_ => ⟨h_.1, h_.2.below⟩)))
    rintro e w17 ⟨rfl, hb⟩
    refine ⟨_, rfl, ?_⟩
    replace BK166 := xB BK166 hb
    replace HB := xH HB hb
    (try clear hb); (try clear hb2); (try clear hk); (try clear hi)
    refine hK.out _ _ ⟨bcu BK166 0, bcu BK166 1, bcu BK166 2⟩ (fun hHeld => ?_)
    clear hK K
    refine no_ 26 ?_
    refine pu_ 24 27 (bl 34 33554431) HT_ ?_
    refine pu_ 25 28 (bl 34 67108863) HT_ ?_
    refine pu_ 26 29 (bl 34 134217727) HT_ ?_
    refine ta_ 27 30 (bl 34 268435455) HT_ HW_ hHeld ?_
    refine ta_ 28 31 (bl 34 536870911) HT_ HW_ hHeld ?_
    refine on_ 29 (some 32) (bl 34 1073741823) HT_ (fun K hK => ?_)
    refine gS Try.func79 #[.agg #[.int .i64 a0_0, .slice A0_1 l0_1.length c0_1, .slice A0_2 l0_2.length c0_2]] ?_
    with_reducible refine (impl_Jacobi_field.calls a0_0 _ _ l0_1 _ _ l0_2 t172 _ ?side1 ?side2 ?side3 ?side4 A11.out).mono ?_
    (case side1 => exact uC ((Kd.C_below HR0_1.out HB.out)))
    (case side2 => exact HC0_1.out)
    (case side3 => exact uC ((Kd.C_below HR0_2.out HB.out)))
    (case side4 => exact HC0_2.out)
    rintro e w18 ⟨rfl, hb⟩
    refine ⟨_, rfl, ?_⟩
    replace BK166 := xB BK166 hb
    replace HB := xH HB hb
    (try clear hb); (try clear hb2); (try clear hk); (try clear hi)
    refine hK.out _ _ ⟨bcu BK166 0, bcu BK166 1, bcu BK166 2⟩ (fun hHeld => ?_)
    clear hK K
    refine no_ 32 ?_
    refine pu_ 30 33 (bl 34 2147483647) HT_ ?_
    refine on_ 31 (some 34) (bl 34 4294967295) HT_ (fun K hK => ?_)
    refine gS Try.func68 #[.slice A0_2 l0_2.length c0_2, (.func (.func 61) #[.int .i64 t172] #[])] ?_
    with_reducible refine (impl_areAll_int64.calls _ _ l0_2 _ (fun z_ => impl_field_isUnit.f t172 z_) t173 _ ?side1 ?side2 ?side3 A12.out).mono ?_
    (case side1 => exact uC ((Kd.C_below HR0_2.out HB.out)))
    (case side2 => exact HC0_2.out)
    (case side3 => exact FnI.of Try.func61 (by kernel_rfl) rfl (fun z_ r_ hr_ W_ hW_ => calls_of_args (args' := #[.int .i64 t172, .int .i64 z_]) (by simp) ((impl_field_isUnit.calls t172 z_ r_ W_  hr_).mono fun e_ W2_ h_ => ⟨h_.1, h_.2.below⟩)))
    rintro e w19 ⟨rfl, hb⟩
    refine ⟨_, rfl, ?_⟩
    replace BK166 := xB BK166 hb
    replace HB := xH HB hb
    (try clear hb); (try clear hb2); (try clear hk); (try clear hi)
    refine hK.out _ _ ⟨bcu BK166 0, bcu BK166 1, bcu BK166 2⟩ (fun hHeld => ?_)
    clear hK K
    refine no_ 34 ?_
    refine pu_ 32 35 (bl 34 8589934591) HT_ ?_
    refine pu_ 33 2 (bl 34 17179869183) HT_ ?_
    refine done_ (done_of HT_.out (by kernel_rfl)) ?_
    try go_wp2
    go_ret
    exact ⟨by first | rfl | (simp [errW_none, errW_some] <;> rfl) | (simp [*, errW_none, errW_some] <;> rfl), uH HB.out⟩
   ·replace c10 := Bool.eq_false_iff.mpr c10
    subst c10
    have H1 : (some false) = some r := by rw [if_neg (show ¬ (false = true) by decide)] at H; exact H
    clear H
    have H := H1
    clear H1
    obtain rfl := Option.some.inj H
    go_enter Try.func63, Try.ntmps63
    try go_wp2_with (first | ((with_reducible refine gate_dst (N := 1) rfl ?_); (try (refine gate_guard (by rfl) ?_; dsimp only)); refine bx 1 #[.int .i64 a0_0, .slice A0_1 l0_1.length c0_1, .slice A0_2 l0_2.length c0_2] 29 ?_; intro gb166 hg w20 hbox hb; have BK166 := zA (hbox); have GW166 := gq HB hg; have GE166 := gq HB hg; replace HB := xH HB hb; have := geI GE166; clear hb hbox hg))
    replace BK166 := zA (blk_drew BK166.out)
    replace HB := zA (below_drew1 HB.out)
    refine start_ (n := 34) (S := fun w' => w'.cell? ⟨gb166, 0, none⟩ = some (.int .i64 a0_0) ∧ w'.cell? ⟨gb166, 1, none⟩ = some (.slice A0_1 l0_1.length c0_1) ∧ w'.cell? ⟨gb166, 2, none⟩ = some (.slice A0_2 l0_2.length c0_2)) (ds := []) #[false, false, false, false, false, false, false, false, false, false, false, false, false, false, false, false, false, false, false, false, false, false, false, false, false, false, false, false, false, false, false, false, false, false] (by kernel_rfl) rfl rfl ⟨bcu BK166 0, bcu BK166 1, bcu BK166 2⟩ (fun hHeld => ?_); refine with_tabW impl_IsJacobi.tab1 impl_IsJacobi.bits1 (fun HT_ HW_ => ?_)
    generalize w20.drew = w21 at BK166 HB hHeld ⊢
    refine pu_ 0 3 (bl 34 1) HT_ ?_
    refine ta_ 1 4 (bl 34 3) HT_ HW_ hHeld ?_
    refine on_ 2 (some 5) (bl 34 7) HT_ (fun K hK => ?_)
    refine gS Try.func77 #[.int .i64 a0_0] ?_
    with_reducible refine (impl_IsPrime.calls k a0_0 true _ A2.out).mono ?_
    rintro e w' ⟨rfl, ⟨nd, rfl⟩⟩
    refine ⟨_, rfl, ?_⟩
    refine hK.out _ _ ⟨bcu BK166 0, bcu BK166 1, bcu BK166 2⟩ (fun hHeld => ?_)
    clear hK K
    refine no_ 5 ?_
    refine pu_ 3 6 (bl 34 15) HT_ ?_
    refine ta_ 4 7 (bl 34 31) HT_ HW_ hHeld ?_
    refine on_ 5 (some 8) (bl 34 63) HT_ (fun K hK => ?_)
    refine gS Try.func78 #[.agg #[.int .i64 a0_0, .slice A0_1 l0_1.length c0_1, .slice A0_2 l0_2.length c0_2]] ?_
    with_reducible refine (impl_Jacobi_size.calls a0_0 _ _ l0_1 _ _ l0_2 t168 _ ?side1 ?side2 ?side3 ?side4 A4.out).mono ?_
    (case side1 => repeat (first | exact (Kd.C_below HR0_1.out (uH HB.out)) | (with_reducible refine Kd.C_alloc ?_ _) | (with_reducible refine Kd.C_drewN ?_ _) | (with_reducible refine Kd.C_drew ?_)))
    (case side2 => exact HC0_1.out)
    (case side3 => repeat (first | exact (Kd.C_below HR0_2.out (uH HB.out)) | (with_reducible refine Kd.C_alloc ?_ _) | (with_reducible refine Kd.C_drewN ?_ _) | (with_reducible refine Kd.C_drew ?_)))
    (case side4 => exact HC0_2.out)
    rintro e w22 ⟨rfl, hb⟩
    refine ⟨_, rfl, ?_⟩
    replace BK166 := xB BK166 hb
    replace HB := xH HB hb
    (try clear hb); (try clear hb2); (try clear hk); (try clear hi)
    refine hK.out _ _ ⟨bcu BK166 0, bcu BK166 1, bcu BK166 2⟩ (fun hHeld => ?_)
    clear hK K
    refine no_ 8 ?_
    refine on_ 6 (some 9) (bl 34 127) HT_ (fun K hK => ?_)
    refine gS Try.func76 #[.int .i64 t168, .int .i64 1, .int .i64 12] ?_
    with_reducible refine (impl_within.calls t168 1 12 true _ A5.out).mono ?_
    rintro e w' ⟨rfl, ⟨nd, rfl⟩⟩
    refine ⟨_, rfl, ?_⟩
    refine hK.out _ _ ⟨bcu BK166 0, bcu BK166 1, bcu BK166 2⟩ (fun hHeld => ?_)
    clear hK K
    refine no_ 9 ?_
    refine pu_ 7 10 (bl 34 255) HT_ ?_
    refine pu_ 8 11 (bl 34 511) HT_ ?_
    refine pu_ 9 12 (bl 34 1023) HT_ ?_
    refine pu_ 12 15 (bl 34 5119) HT_ ?_
    refine ta_ 10 13 (bl 34 6143) HT_ HW_ hHeld ?_
    refine pu_ 11 14 (bl 34 8191) HT_ ?_
    refine ta_ 13 16 (bl 34 16383) HT_ HW_ hHeld ?_
    refine pu_ 14 17 (bl 34 32767) HT_ ?_
    refine pu_ 15 18 (bl 34 65535) HT_ ?_
    refine pu_ 16 19 (bl 34 131071) HT_ ?_
    refine pu_ 17 20 (bl 34 262143) HT_ ?_
    refine pu_ 18 21 (bl 34 524287) HT_ ?_
    refine ta_ 19 22 (bl 34 1048575) HT_ HW_ hHeld ?_
    refine ta_ 20 23 (bl 34 2097151) HT_ HW_ hHeld ?_
    refine on_ 21 (some 24) (bl 34 4194303) HT_ (fun K hK => ?_)
    refine gS Try.func79 #[.agg #[.int .i64 a0_0, .slice A0_1 l0_1.length c0_1, .slice A0_2 l0_2.length c0_2]] ?_
    with_reducible refine (impl_Jacobi_field.calls a0_0 _ _ l0_1 _ _ l0_2 t170 _ ?side1 ?side2 ?side3 ?side4 A8.out).mono ?_
    (case side1 => repeat (first | exact (Kd.C_below HR0_1.out (uH HB.out)) | (with_reducible refine Kd.C_alloc ?_ _) | (with_reducible refine Kd.C_drewN ?_ _) | (with_reducible refine Kd.C_drew ?_)))
    (case side2 => exact HC0_1.out)
    (case side3 => repeat (first | exact (Kd.C_below HR0_2.out (uH HB.out)) | (with_reducible refine Kd.C_alloc ?_ _) | (with_reducible refine Kd.C_drewN ?_ _) | (with_reducible refine Kd.C_drew ?_)))
    (case side4 => exact HC0_2.out)
    rintro e w23 ⟨rfl, hb⟩
    refine ⟨_, rfl, ?_⟩
    replace BK166 := xB BK166 hb
    replace HB := xH HB hb
    (try clear hb); (try clear hb2); (try clear hk); (try clear hi)
    refine hK.out _ _ ⟨bcu BK166 0, bcu BK166 1, bcu BK166 2⟩ (fun hHeld => ?_)
    clear hK K
    refine no_ 24 ?_
    refine pu_ 22 25 (bl 34 8388607) HT_ ?_
    refine on_ 23 (some 26) (bl 34 16777215) HT_ (fun K hK => ?_)
    refine gS Try.func68 #[.slice A0_1 l0_1.length c0_1, (.func (.func 57) #[.int .i64 t170] #[])] ?_
    with_reducible refine (impl_areAll_int64.calls _ _ l0_1 _ (fun z_ => impl_field_has.f t170 z_) false _ ?side1 ?side2 ?side3 A9.out).mono ?_
    (case side1 => exact uC ((Kd.C_below HR0_1.out HB.out)))
    (case side2 => exact HC0_1.out)
    (case side3 => exact FnI.of Try.func57 (by kernel_rfl) rfl (fun z_ r_ hr_ W_ hW_ => calls_of_args (args' := #[.int .i64 t170, .int .i64 z_]) (by simp) ((impl_field_has.calls t170 z_ r_ W_  hr_).mono fun e_ W2_ h_ => ⟨h_.1, h_.2.below⟩)))
    rintro e w24 ⟨rfl, hb⟩
    refine ⟨_, rfl, ?_⟩
    replace BK166 := xB BK166 hb
    replace HB := xH HB hb
    (try clear hb); (try clear hb2); (try clear hk); (try clear hi)
    refine hK.out _ _ ⟨bcu BK166 0, bcu BK166 1, bcu BK166 2⟩ (fun hHeld => ?_)
    clear hK K
    refine no_ 26 ?_
    refine pu_ 24 27 (bl 34 33554431) HT_ ?_
    refine pu_ 25 28 (bl 34 67108863) HT_ ?_
    refine un_ 26 29 (bl 34 134217727) HT_ ?_
    refine un_ 27 30 (bl 34 268435455) HT_ ?_
    refine un_ 28 31 (bl 34 536870911) HT_ ?_
    refine un_ 29 32 (bl 34 1073741823) HT_ ?_
    refine un_ 30 33 (bl 34 2147483647) HT_ ?_
    refine un_ 31 34 (bl 34 4294967295) HT_ ?_
    refine pu_ 32 35 (bl 34 8589934591) HT_ ?_
    refine pu_ 33 2 (bl 34 17179869183) HT_ ?_
    refine done_ (done_of HT_.out (by kernel_rfl)) ?_
    try go_wp2
    go_ret
    exact ⟨by first | rfl | (simp [errW_none, errW_some] <;> rfl) | (simp [*, errW_none, errW_some] <;> rfl), uH HB.out⟩
  ·replace c6 := Bool.eq_false_iff.mpr c6
   subst c6
   have H1 : (some false) = some r := by rw [if_neg (show ¬ (false = true) by decide)] at H; exact H
   clear H
   have H := H1
   clear H1
   obtain rfl := Option.some.inj H
   go_enter Try.func63, Try.ntmps63
   try go_wp2_with (first | ((with_reducible refine gate_dst (N := 1) rfl ?_); (try (refine gate_guard (by rfl) ?_; dsimp only)); refine bx 1 #[.int .i64 a0_0, .slice A0_1 l0_1.length c0_1, .slice A0_2 l0_2.length c0_2] 29 ?_; intro gb166 hg w28 hbox hb; have BK166 := zA (hbox); have GW166 := gq HB hg; have GE166 := gq HB hg; replace HB := xH HB hb; have := geI GE166; clear hb hbox hg))
   replace BK166 := zA (blk_drew BK166.out)
   replace HB := zA (below_drew1 HB.out)
   refine start_ (n := 34) (S := fun w' => w'.cell? ⟨gb166, 0, none⟩ = some (.int .i64 a0_0) ∧ w'.cell? ⟨gb166, 1, none⟩ = some (.slice A0_1 l0_1.length c0_1) ∧ w'.cell? ⟨gb166, 2, none⟩ = some (.slice A0_2 l0_2.length c0_2)) (ds := []) #[false, false, false, false, false, false, false, false, false, false, false, false, false, false, false, false, false, false, false, false, false, false, false, false, false, false, false, false, false, false, false, false, false, false] (by kernel_rfl) rfl rfl ⟨bcu BK166 0, bcu BK166 1, bcu BK166 2⟩ (fun hHeld => ?_); refine with_tabW impl_IsJacobi.tab1 impl_IsJacobi.bits1 (fun HT_ HW_ => ?_)
   generalize w28.drew = w29 at BK166 HB hHeld ⊢
   refine pu_ 0 3 (bl 34 1) HT_ ?_
   refine ta_ 1 4 (bl 34 3) HT_ HW_ hHeld ?_
   refine on_ 2 (some 5) (bl 34 7) HT_ (fun K hK => ?_)
   refine gS Try.func77 #[.int .i64 a0_0] ?_
   with_reducible refine (impl_IsPrime.calls k a0_0 true _ A2.out).mono ?_
   rintro e w' ⟨rfl, ⟨nd, rfl⟩⟩
   refine ⟨_, rfl, ?_⟩
   refine hK.out _ _ ⟨bcu BK166 0, bcu BK166 1, bcu BK166 2⟩ (fun hHeld => ?_)
   clear hK K
   refine no_ 5 ?_
   refine pu_ 3 6 (bl 34 15) HT_ ?_
   refine ta_ 4 7 (bl 34 31) HT_ HW_ hHeld ?_
   refine on_ 5 (some 8) (bl 34 63) HT_ (fun K hK => ?_)
   refine gS Try.func78 #[.agg #[.int .i64 a0_0, .slice A0_1 l0_1.length c0_1, .slice A0_2 l0_2.length c0_2]] ?_
   with_reducible refine (impl_Jacobi_size.calls a0_0 _ _ l0_1 _ _ l0_2 t168 _ ?side1 ?side2 ?side3 ?side4 A4.out).mono ?_
   (case side1 => repeat (first | exact (Kd.C_below HR0_1.out (uH HB.out)) | (with_reducible refine Kd.C_alloc ?_ _) | (with_reducible refine Kd.C_drewN ?_ _) | (with_reducible refine Kd.C_drew ?_)))
   (case side2 => exact HC0_1.out)
   (case side3 => repeat (first | exact (Kd.C_below HR0_2.out (uH HB.out)) | (with_reducible refine Kd.C_alloc ?_ _) | (with_reducible refine Kd.C_drewN ?_ _) | (with_reducible refine Kd.C_drew ?_)))
   (case side4 => exact HC0_2.out)
   rintro e w30 ⟨rfl, hb⟩
   refine ⟨_, rfl, ?_⟩
   replace BK166 := xB BK166 hb
   replace HB := xH HB hb
   (try clear hb); (try clear hb2); (try clear hk); (try clear hi)
   refine hK.out _ _ ⟨bcu BK166 0, bcu BK166 1, bcu BK166 2⟩ (fun hHeld => ?_)
   clear hK K
   refine no_ 8 ?_
   refine on_ 6 (some 9) (bl 34 127) HT_ (fun K hK => ?_)
   refine gS Try.func76 #[.int .i64 t168, .int .i64 1, .int .i64 12] ?_
   with_reducible refine (impl_within.calls t168 1 12 false _ A5.out).mono ?_
   rintro e w' ⟨rfl, ⟨nd, rfl⟩⟩
   refine ⟨_, rfl, ?_⟩
   refine hK.out _ _ ⟨bcu BK166 0, bcu BK166 1, bcu BK166 2⟩ (fun hHeld => ?_)
   clear hK K
   refine no_ 9 ?_
   refine pu_ 7 10 (bl 34 255) HT_ ?_
   refine pu_ 8 11 (bl 34 511) HT_ ?_
   refine un_ 9 12 (bl 34 1023) HT_ ?_
   refine un_ 10 13 (bl 34 2047) HT_ ?_
   refine un_ 11 14 (bl 34 4095) HT_ ?_
   refine un_ 12 15 (bl 34 8191) HT_ ?_
   refine un_ 13 16 (bl 34 16383) HT_ ?_
   refine un_ 14 17 (bl 34 32767) HT_ ?_
   refine un_ 15 18 (bl 34 65535) HT_ ?_
   refine pu_ 16 19 (bl 34 131071) HT_ ?_
   refine pu_ 17 20 (bl 34 262143) HT_ ?_
   refine un_ 18 21 (bl 34 524287) HT_ ?_
   refine un_ 19 22 (bl 34 1048575) HT_ ?_
   refine un_ 20 23 (bl 34 2097151) HT_ ?_
   refine un_ 21 24 (bl 34 4194303) HT_ ?_
   refine un_ 22 25 (bl 34 8388607) HT_ ?_
   refine un_ 23 26 (bl 34 16777215) HT_ ?_
   refine pu_ 24 27 (bl 34 33554431) HT_ ?_
   refine pu_ 25 28 (bl 34 67108863) HT_ ?_
   refine un_ 26 29 (bl 34 134217727) HT_ ?_
   refine un_ 27 30 (bl 34 268435455) HT_ ?_
   refine un_ 28 31 (bl 34 536870911) HT_ ?_
   refine un_ 29 32 (bl 34 1073741823) HT_ ?_
   refine un_ 30 33 (bl 34 2147483647) HT_ ?_
   refine un_ 31 34 (bl 34 4294967295) HT_ ?_
   refine pu_ 32 35 (bl 34 8589934591) HT_ ?_
   refine pu_ 33 2 (bl 34 17179869183) HT_ ?_
   refine done_ (done_of HT_.out (by kernel_rfl)) ?_
   try go_wp2
   go_ret
   exact ⟨by first | rfl | (simp [errW_none, errW_some] <;> rfl) | (simp [*, errW_none, errW_some] <;> rfl), uH HB.out⟩
 ·replace c3 := Bool.eq_false_iff.mpr c3
  subst c3
  have H1 : (some false) = some r := by rw [if_neg (show ¬ (false = true) by decide)] at H; exact H
  clear H
  have H := H1
  clear H1
  obtain rfl := Option.some.inj H
  go_enter Try.func63, Try.ntmps63
  try go_wp2_with (first | ((with_reducible refine gate_dst (N := 1) rfl ?_); (try (refine gate_guard (by rfl) ?_; dsimp only)); refine bx 1 #[.int .i64 a0_0, .slice A0_1 l0_1.length c0_1, .slice A0_2 l0_2.length c0_2] 29 ?_; intro gb166 hg w31 hbox hb; have BK166 := zA (hbox); have GW166 := gq HB hg; have GE166 := gq HB hg; replace HB := xH HB hb; have := geI GE166; clear hb hbox hg))
  replace BK166 := zA (blk_drew BK166.out)
  replace HB := zA (below_drew1 HB.out)
  refine start_ (n := 34) (S := fun w' => w'.cell? ⟨gb166, 0, none⟩ = some (.int .i64 a0_0) ∧ w'.cell? ⟨gb166, 1, none⟩ = some (.slice A0_1 l0_1.length c0_1) ∧ w'.cell? ⟨gb166, 2, none⟩ = some (.slice A0_2 l0_2.length c0_2)) (ds := []) #[false, false, false, false, false, false, false, false, false, false, false, false, false, false, false, false, false, false, false, false, false, false, false, false, false, false, false, false, false, false, false, false, false, false] (by kernel_rfl) rfl rfl ⟨bcu BK166 0, bcu BK166 1, bcu BK166 2⟩ (fun hHeld => ?_); refine with_tabW impl_IsJacobi.tab1 impl_IsJacobi.bits1 (fun HT_ HW_ => ?_)
  generalize w31.drew = w32 at BK166 HB hHeld ⊢
  refine pu_ 0 3 (bl 34 1) HT_ ?_
  refine ta_ 1 4 (bl 34 3) HT_ HW_ hHeld ?_
  refine on_ 2 (some 5) (bl 34 7) HT_ (fun K hK => ?_)
  refine gS Try.func77 #[.int .i64 a0_0] ?_
  with_reducible refine (impl_IsPrime.calls k a0_0 false _ A2.out).mono ?_
  rintro e w' ⟨rfl, ⟨nd, rfl⟩⟩
  refine ⟨_, rfl, ?_⟩
  refine hK.out _ _ ⟨bcu BK166 0, bcu BK166 1, bcu BK166 2⟩ (fun hHeld => ?_)
  clear hK K
  refine no_ 5 ?_
  refine pu_ 3 6 (bl 34 15) HT_ ?_
  refine un_ 4 7 (bl 34 31) HT_ ?_
  refine un_ 5 8 (bl 34 63) HT_ ?_
  refine un_ 6 9 (bl 34 127) HT_ ?_
  refine pu_ 7 10 (bl 34 255) HT_ ?_
  refine pu_ 8 11 (bl 34 511) HT_ ?_
  refine un_ 9 12 (bl 34 1023) HT_ ?_
  refine un_ 10 13 (bl 34 2047) HT_ ?_
  refine un_ 11 14 (bl 34 4095) HT_ ?_
  refine un_ 12 15 (bl 34 8191) HT_ ?_
  refine un_ 13 16 (bl 34 16383) HT_ ?_
  refine un_ 14 17 (bl 34 32767) HT_ ?_
  refine un_ 15 18 (bl 34 65535) HT_ ?_
  refine pu_ 16 19 (bl 34 131071) HT_ ?_
  refine pu_ 17 20 (bl 34 262143) HT_ ?_
  refine un_ 18 21 (bl 34 524287) HT_ ?_
  refine un_ 19 22 (bl 34 1048575) HT_ ?_
  refine un_ 20 23 (bl 34 2097151) HT_ ?_
  refine un_ 21 24 (bl 34 4194303) HT_ ?_
  refine un_ 22 25 (bl 34 8388607) HT_ ?_
  refine un_ 23 26 (bl 34 16777215) HT_ ?_
  refine pu_ 24 27 (bl 34 33554431) HT_ ?_
  refine pu_ 25 28 (bl 34 67108863) HT_ ?_
  refine un_ 26 29 (bl 34 134217727) HT_ ?_
  refine un_ 27 30 (bl 34 268435455) HT_ ?_
  refine un_ 28 31 (bl 34 536870911) HT_ ?_
  refine un_ 29 32 (bl 34 1073741823) HT_ ?_
  refine un_ 30 33 (bl 34 2147483647) HT_ ?_
  refine un_ 31 34 (bl 34 4294967295) HT_ ?_
  refine pu_ 32 35 (bl 34 8589934591) HT_ ?_
  refine pu_ 33 2 (bl 34 17179869183) HT_ ?_
  refine done_ (done_of HT_.out (by kernel_rfl)) ?_
  try go_wp2
  go_ret
  exact ⟨by first | rfl | (simp [errW_none, errW_some] <;> rfl) | (simp [*, errW_none, errW_some] <;> rfl), uH HB.out⟩
/-! ### impl_IsPoly: function 83 -/
def impl_IsPoly.f (a0 : Int) (l1 : List Int) : Option (Bool) := if (l1.length : Int) ≤ 25 then ((impl_areAll_int64.f l1 (fun z_ => impl_field_has.f a0 z_)).bind fun t338 => (if t338 = true then (if (l1.length : Int) = 0 then (some true) else (if 0 ≤ (wrap64 ((l1.length : Int) - 1)) then (if (wrap64 ((l1.length : Int) - 1)) < (l1.length : Int) then (some ((rd l1 (wrap64 ((l1.length : Int) - 1))) != 0)) else (none)) else (none))) else (some false))) else (some false)
set_option maxHeartbeats 8000000 in
set_option maxRecDepth 100000 in
theorem impl_IsPoly.calls (a0 : Int) (A1 : Option Addr) (c1 : Nat) (l1 : List Int) (r : Bool) (w : World) (hr1 : Kd.C (Kd.int .i64) w A1 l1.length l1) (hc1 : l1.length ≤ c1) (h : impl_IsPoly.f a0 l1 = some r) :
  Calls Try.prog 83 #[.int .i64 a0, .slice A1 l1.length c1] w fun e w' => e = .returned (.bool r) ∧ Below w.heap.size w w' := by
 have hmf : ∀ (fn_ : Fn) (first_ cap_ : Array Value) (w_ : World), (Instr.makeFunc fn_ first_ cap_).run Try.prog w_ = .ok (.func fn_ first_ cap_) w_ := fun _ _ _ _ => rfl
 have HR1 := zA hr1
 have HC1 := zA hc1
 clear hr1 hc1
 have HB := zA (Below.refl w.heap.size w)
 have H : (if (l1.length : Int) ≤ 25 then ((impl_areAll_int64.f l1 (fun z_ => impl_field_has.f a0 z_)).bind fun t338 => (if t338 = true then (if (l1.length : Int) = 0 then (some true) else (if 0 ≤ (wrap64 ((l1.length : Int) - 1)) then (if (wrap64 ((l1.length : Int) - 1)) < (l1.length : Int) then (some ((rd l1 (wrap64 ((l1.length : Int) - 1))) != 0)) else (none)) else (none))) else (some false))) else (some false)) = some r := h
 clear h
 by_cases c3 : (l1.length : Int) ≤ 25
 rotate_left
 ·rw [if_neg c3] at H
  have c3b0 : decide ((l1.length : Int) ≤ 25) = false := decide_eq_false c3
  have c3b1 : decide (l1.length ≤ 25) = false := decide_eq_false (by omega)
  clear c3
  obtain rfl := Option.some.inj H
  go_enter Try.func83, Try.ntmps83
  go_wp2
  go_ret
  exact ⟨by first | rfl | (simp [errW_none, errW_some] <;> rfl) | (simp [*, errW_none, errW_some] <;> rfl), uH HB.out⟩

 rw [if_pos c3] at H
 have c3b0 : decide ((l1.length : Int) ≤ 25) = true := decide_eq_true c3
 have c3b1 : decide (l1.length ≤ 25) = true := decide_eq_true (by omega)
 clear c3
 replace H := Option.bind_eq_some_iff.mp H
 obtain ⟨t338, A40, H⟩ := H
 replace H : (if t338 = true then (if (l1.length : Int) = 0 then (some true) else (if 0 ≤ (wrap64 ((l1.length : Int) - 1)) then (if (wrap64 ((l1.length : Int) - 1)) < (l1.length : Int) then (some ((rd l1 (wrap64 ((l1.length : Int) - 1))) != 0)) else (none)) else (none))) else (some false)) = some r := H
 have A4 := zA A40
 clear A40
 by_cases c5 : t338 = true
 ·subst c5
  have H1 : (if (l1.length : Int) = 0 then (some true) else (if 0 ≤ (wrap64 ((l1.length : Int) - 1)) then (if (wrap64 ((l1.length : Int) - 1)) < (l1.length : Int) then (some ((rd l1 (wrap64 ((l1.length : Int) - 1))) != 0)) else (none)) else (none))) = some r := by rw [if_pos rfl] at H; exact H
  clear H
  have H := H1
  clear H1
  by_cases c6 : (l1.length : Int) = 0
  rotate_left
  ·rw [if_neg c6] at H
   have c6b0 : ((l1.length : Int) == 0) = false := beq_eq_false_iff_ne.mpr c6
   have c6b1 : ((l1.length : Int) != 0) = true := bne_iff_ne.mpr c6
   have c6b2 : ¬ (l1 = []) := fun h_ => c6 (by rw [h_]; rfl)
   obtain ⟨ji8, hji8⟩ : ∃ j_ : Int, (wrap64 ((l1.length : Int) - 1)) = j_ := ⟨_, rfl⟩
   replace H : (if 0 ≤ (ji8) then (if (ji8) < (l1.length : Int) then (some ((rd l1 (ji8)) != 0)) else (none)) else (none)) = some r := by first | (rw [hji8] at H; exact H) | (simp only [hji8] at H ⊢; exact H)
   (try rw [hji8] at A4)
   have hji8w : (IntKind.i64.wrap ((l1.length : Int) - 1)) = ji8 := (i64_w _).trans hji8
   by_cases c9 : 0 ≤ (ji8)
   rotate_left
   ·rw [if_neg c9] at H
    exact absurd H (by simp)
   rw [if_pos c9] at H
   have c9b0 : decide (0 ≤ (ji8)) = true := decide_eq_true c9
   clear c9
   by_cases c10 : (ji8) < (l1.length : Int)
   rotate_left
   ·rw [if_neg c10] at H
    exact absurd H (by simp)
   rw [if_pos c10] at H
   have c10b0 : decide ((ji8) < (l1.length : Int)) = true := decide_eq_true c10
   clear c10
   obtain rfl := Option.some.inj H
   go_enter Try.func83, Try.ntmps83
   go_wp2_with (first | (go_at_call 68; (with_reducible refine (impl_areAll_int64.calls _ _ l1 _ (fun z_ => impl_field_has.f a0 z_) true _ ?side1 ?side2 ?side3 A4.out).mono ?_); (case side1 => exact uC HR1.out); (case side2 => exact HC1.out); (case side3 => exact FnI.of Try.func57 (by kernel_rfl) rfl (fun z_ r_ hr_ W_ hW_ => calls_of_args (args' := #[.int .i64 a0, .int .i64 z_]) (by simp) ((impl_field_has.calls a0 z_ r_ W_  hr_).mono fun e_ W2_ h_ => ⟨h_.1, h_.2.below⟩))); rintro e w11 ⟨rfl, hb⟩; replace HB := xH HB hb; (try clear hb); (try clear hb2); (try clear hk); (try clear hi); have p339 : 0 ≤ ((ji8) : Int) := of_decide_eq_true (by first | (with_reducible assumption) | assumption); have q339 : (ji8) < (l1.length : Int) := of_decide_eq_true (by first | (with_reducible assumption) | assumption); obtain ⟨ad339, e339, hx339_0⟩ := Kd.at_int HR1.out (ji8) p339 q339; cases e339; replace hx339_0 := hc HB hx339_0; replace p339 := eq_true p339; replace q339 := eq_true q339))
   go_ret
   exact ⟨by first | rfl | (simp [errW_none, errW_some] <;> rfl) | (simp only [← hji8]; first | rfl | (simp [errW_none, errW_some] <;> rfl)) | (simp [*, errW_none, errW_some] <;> rfl), uH HB.out⟩
  rw [if_pos c6] at H
  have c6b0 : ((l1.length : Int) == 0) = true := beq_iff_eq.mpr c6
  have c6b1 : ((l1.length : Int) != 0) = false := bne_eq_false_iff_eq.mpr c6
  clear c6
  obtain rfl := Option.some.inj H
  go_enter Try.func83, Try.ntmps83
  go_wp2_with (first | (go_at_call 68; (with_reducible refine (impl_areAll_int64.calls _ _ l1 _ (fun z_ => impl_field_has.f a0 z_) true _ ?side1 ?side2 ?side3 A4.out).mono ?_); (case side1 => exact uC HR1.out); (case side2 => exact HC1.out); (case side3 => exact FnI.of Try.func57 (by kernel_rfl) rfl (fun z_ r_ hr_ W_ hW_ => calls_of_args (args' := #[.int .i64 a0, .int .i64 z_]) (by simp) ((impl_field_has.calls a0 z_ r_ W_  hr_).mono fun e_ W2_ h_ => ⟨h_.1, h_.2.below⟩))); rintro e w7 ⟨rfl, hb⟩; replace HB := xH HB hb; (try clear hb); (try clear hb2); (try clear hk); (try clear hi)))
  go_ret
  exact ⟨by first | rfl | (simp [errW_none, errW_some] <;> rfl) | (simp [*, errW_none, errW_some] <;> rfl), uH HB.out⟩
 ·replace c5 := Bool.eq_false_iff.mpr c5
  subst c5
  have H1 : (some false) = some r := by rw [if_neg (show ¬ (false = true) by decide)] at H; exact H
  clear H
  have H := H1
  clear H1
  obtain rfl := Option.some.inj H
  go_enter Try.func83, Try.ntmps83
  go_wp2_with (first | (go_at_call 68; (with_reducible refine (impl_areAll_int64.calls _ _ l1 _ (fun z_ => impl_field_has.f a0 z_) false _ ?side1 ?side2 ?side3 A4.out).mono ?_); (case side1 => exact uC HR1.out); (case side2 => exact HC1.out); (case side3 => exact FnI.of Try.func57 (by kernel_rfl) rfl (fun z_ r_ hr_ W_ hW_ => calls_of_args (args' := #[.int .i64 a0, .int .i64 z_]) (by simp) ((impl_field_has.calls a0 z_ r_ W_  hr_).mono fun e_ W2_ h_ => ⟨h_.1, h_.2.below⟩))); rintro e w12 ⟨rfl, hb⟩; replace HB := xH HB hb; (try clear hb); (try clear hb2); (try clear hk); (try clear hi)))
  go_ret
  exact ⟨by first | rfl | (simp [errW_none, errW_some] <;> rfl) | (simp [*, errW_none, errW_some] <;> rfl), uH HB.out⟩
/-! ### impl_areNumbers: function 72 -/
def impl_areNumbers.f (k : Nat) (a0 : Int) (l1 : List Int) (a2 : Int) (a3 : Int) : Option (Bool) := (impl_IsPrime.f k a0).bind fun t493 => (if t493 = true then ((impl_length_int64.f l1).bind fun t494 => ((impl_within.f t494 a2 a3).bind fun t495 => (if t495 = true then ((impl_areAll_int64.f l1 (fun z_ => impl_field_has.f a0 z_)).bind fun t496 => (some t496)) else (some false)))) else (some false))
theorem impl_areNumbers.mono : ∀ a0 a1 a2 a3 k, LeO (impl_areNumbers.f k a0 a1 a2 a3) (impl_areNumbers.f (k + 1) a0 a1 a2 a3) := by
 intro a0 a1 a2 a3 k
 unfold impl_areNumbers.f
 repeat' first
   | (with_reducible exact impl_IsPrime.mono _ _)
   | (with_reducible exact LeO.refl _)
   | (with_reducible exact LeO.none _)
   | (with_reducible refine LeO.ite ?_ ?_)
   | (with_reducible refine LeO.bind ?_ (fun _ => ?_))
   | exact impl_IsPrime.mono _ _
   | exact LeO.none _
   | refine LeO.ite ?_ ?_
   | refine LeO.bind ?_ (fun _ => ?_)
set_option maxHeartbeats 8000000 in
set_option maxRecDepth 100000 in
theorem impl_areNumbers.calls (k : Nat) (a0 : Int) (A1 : Option Addr) (c1 : Nat) (l1 : List Int) (a2 : Int) (a3 : Int) (r : Bool) (w : World) (hr1 : Kd.C (Kd.int .i64) w A1 l1.length l1) (hc1 : l1.length ≤ c1) (h : impl_areNumbers.f k a0 l1 a2 a3 = some r) :
  Calls Try.prog 72 #[.int .i64 a0, .slice A1 l1.length c1, .int .i64 a2, .int .i64 a3] w fun e w' => e = .returned (.bool r) ∧ Below w.heap.size w w' := by
 have hmf : ∀ (fn_ : Fn) (first_ cap_ : Array Value) (w_ : World), (Instr.makeFunc fn_ first_ cap_).run Try.prog w_ = .ok (.func fn_ first_ cap_) w_ := fun _ _ _ _ => rfl
 have HR1 := zA hr1
 have HC1 := zA hc1
 clear hr1 hc1
 have HB := zA (Below.refl w.heap.size w)
 have H : ((impl_IsPrime.f k a0).bind fun t493 => (if t493 = true then ((impl_length_int64.f l1).bind fun t494 => ((impl_within.f t494 a2 a3).bind fun t495 => (if t495 = true then ((impl_areAll_int64.f l1 (fun z_ => impl_field_has.f a0 z_)).bind fun t496 => (some t496)) else (some false)))) else (some false))) = some r := h
 clear h
 replace H := Option.bind_eq_some_iff.mp H
 obtain ⟨t493, A50, H⟩ := H
 replace H : (if t493 = true then ((impl_length_int64.f l1).bind fun t494 => ((impl_within.f t494 a2 a3).bind fun t495 => (if t495 = true then ((impl_areAll_int64.f l1 (fun z_ => impl_field_has.f a0 z_)).bind fun t496 => (some t496)) else (some false)))) else (some false)) = some r := H
 have A5 := zA A50
 clear A50
 by_cases c6 : t493 = true
 ·subst c6
  have H1 : ((impl_length_int64.f l1).bind fun t494 => ((impl_within.f t494 a2 a3).bind fun t495 => (if t495 = true then ((impl_areAll_int64.f l1 (fun z_ => impl_field_has.f a0 z_)).bind fun t496 => (some t496)) else (some false)))) = some r := by rw [if_pos rfl] at H; exact H
  clear H
  have H := H1
  clear H1
  replace H := Option.bind_eq_some_iff.mp H
  obtain ⟨t494, A70, H⟩ := H
  replace H : ((impl_within.f t494 a2 a3).bind fun t495 => (if t495 = true then ((impl_areAll_int64.f l1 (fun z_ => impl_field_has.f a0 z_)).bind fun t496 => (some t496)) else (some false))) = some r := H
  have A7 := zA A70
  clear A70
  replace H := Option.bind_eq_some_iff.mp H
  obtain ⟨t495, A80, H⟩ := H
  replace H : (if t495 = true then ((impl_areAll_int64.f l1 (fun z_ => impl_field_has.f a0 z_)).bind fun t496 => (some t496)) else (some false)) = some r := H
  have A8 := zA A80
  clear A80
  by_cases c9 : t495 = true
  ·subst c9
   have H1 : ((impl_areAll_int64.f l1 (fun z_ => impl_field_has.f a0 z_)).bind fun t496 => (some t496)) = some r := by rw [if_pos rfl] at H; exact H
   clear H
   have H := H1
   clear H1
   replace H := Option.bind_eq_some_iff.mp H
   obtain ⟨t496, A100, H⟩ := H
   replace H : (some t496) = some r := H
   have A10 := zA A100
   clear A100
   obtain rfl := Option.some.inj H
   go_enter Try.func72, Try.ntmps72
   go_wp2_with (first | ((with_reducible refine gate_callee (f := 77) rfl ?_); refine gL (some 10) Try.func77 #[.int .i64 a0] ?_; (with_reducible refine (impl_IsPrime.calls k a0 true _ A5.out).mono ?_); rintro e w' ⟨rfl, ⟨nd, rfl⟩⟩; refine ⟨_, rfl, ?_⟩) | (go_at_call 50; (with_reducible refine (impl_length_int64.calls _ _ l1 t494 _ ?side1 ?side2 A7.out).mono ?_); (case side1 => exact uC HR1.out); (case side2 => exact HC1.out); rintro e w' ⟨rfl, ⟨nd, rfl⟩⟩) | (go_at_call 76; (with_reducible refine (impl_within.calls t494 a2 a3 true _ A8.out).mono ?_); rintro e w' ⟨rfl, ⟨nd, rfl⟩⟩) | (go_at_call 68; (with_reducible refine (impl_areAll_int64.calls _ _ l1 _ (fun z_ => impl_field_has.f a0 z_) t496 _ ?side1 ?side2 ?side3 A10.out).mono ?_); (case side1 => exact uC HR1.out); (case side2 => exact HC1.out); (case side3 => exact FnI.of Try.func57 (by kernel_rfl) rfl (fun z_ r_ hr_ W_ hW_ => calls_of_args (args' := #[.int .i64 a0, .int .i64 z_]) (by simp) ((impl_field_has.calls a0 z_ r_ W_  hr_).mono fun e_ W2_ h_ => ⟨h_.1, h_.2.below⟩))); rintro e w11 ⟨rfl, hb⟩; replace HB := xH HB hb; (try clear hb); (try clear hb2); (try clear hk); (try clear hi)))
   go_ret
   exact ⟨by first | rfl | (simp [errW_none, errW_some] <;> rfl) | (simp [*, errW_none, errW_some] <;> rfl), uH HB.out⟩
  ·replace c9 := Bool.eq_false_iff.mpr c9
   subst c9
   have H1 : (some false) = some r := by rw [if_neg (show ¬ (false = true) by decide)] at H; exact H
   clear H
   have H := H1
   clear H1
   obtain rfl := Option.some.inj H
   go_enter Try.func72, Try.ntmps72
   go_wp2_with (first | ((with_reducible refine gate_callee (f := 77) rfl ?_); refine gL (some 10) Try.func77 #[.int .i64 a0] ?_; (with_reducible refine (impl_IsPrime.calls k a0 true _ A5.out).mono ?_); rintro e w' ⟨rfl, ⟨nd, rfl⟩⟩; refine ⟨_, rfl, ?_⟩) | (go_at_call 50; (with_reducible refine (impl_length_int64.calls _ _ l1 t494 _ ?side1 ?side2 A7.out).mono ?_); (case side1 => exact uC HR1.out); (case side2 => exact HC1.out); rintro e w' ⟨rfl, ⟨nd, rfl⟩⟩) | (go_at_call 76; (with_reducible refine (impl_within.calls t494 a2 a3 false _ A8.out).mono ?_); rintro e w' ⟨rfl, ⟨nd, rfl⟩⟩))
   go_ret
   exact ⟨by first | rfl | (simp [errW_none, errW_some] <;> rfl) | (simp [*, errW_none, errW_some] <;> rfl), uH HB.out⟩
 ·replace c6 := Bool.eq_false_iff.mpr c6
  subst c6
  have H1 : (some false) = some r := by rw [if_neg (show ¬ (false = true) by decide)] at H; exact H
  clear H
  have H := H1
  clear H1
  obtain rfl := Option.some.inj H
  go_enter Try.func72, Try.ntmps72
  go_wp2_with (first | ((with_reducible refine gate_callee (f := 77) rfl ?_); refine gL (some 10) Try.func77 #[.int .i64 a0] ?_; (with_reducible refine (impl_IsPrime.calls k a0 false _ A5.out).mono ?_); rintro e w' ⟨rfl, ⟨nd, rfl⟩⟩; refine ⟨_, rfl, ?_⟩))
  go_ret
  exact ⟨by first | rfl | (simp [errW_none, errW_some] <;> rfl) | (simp [*, errW_none, errW_some] <;> rfl), uH HB.out⟩
/-! ### impl_IsRule: function 55 -/
def impl_IsRule.f (k : Nat) (a0_0 : Int) (l0_1 : List Int) (l0_2 : List Int) : Option (Bool) := (impl_areNumbers.f k a0_0 l0_1 0 24).bind fun t500 => (if t500 = true then ((impl_areAscending.f k l0_1).bind fun t501 => (if t501 = true then ((impl_length_int64.f l0_1).bind fun t502 => ((impl_length_int64.f l0_1).bind fun t503 => ((impl_areNumbers.f k a0_0 l0_2 t502 t503).bind fun t504 => (some t504)))) else (some false))) else (some false))
theorem impl_IsRule.mono : ∀ a0 a1 a2 k, LeO (impl_IsRule.f k a0 a1 a2) (impl_IsRule.f (k + 1) a0 a1 a2) := by
 intro a0 a1 a2 k
 unfold impl_IsRule.f
 repeat' first
   | (with_reducible exact impl_areAscending.mono _ _)
   | (with_reducible exact impl_areNumbers.mono _ _ _ _ _)
   | (with_reducible exact LeO.refl _)
   | (with_reducible exact LeO.none _)
   | (with_reducible refine LeO.ite ?_ ?_)
   | (with_reducible refine LeO.bind ?_ (fun _ => ?_))
   | exact impl_areAscending.mono _ _
   | exact impl_areNumbers.mono _ _ _ _ _
   | exact LeO.none _
   | refine LeO.ite ?_ ?_
   | refine LeO.bind ?_ (fun _ => ?_)
def impl_IsRule.T1 : Bool × List (List Nat × List Nat) := (true, [([], []), ([0], [0]), ([], []), ([2], [2]), ([1, 3], [1, 3]), ([4, 4], [4]), ([5], [5]), ([6, 5], [5, 6]), ([7, 5, 5], [5, 7]), ([5, 8], [5, 8]), ([9, 8], [9]), ([10], [10]), ([11, 10], [10, 11]), ([10], [10]), ([13, 10], [10, 13]), ([10], [10]), ([15, 10], [10, 15]), ([16, 10, 10], [10, 16]), ([10], [10]), ([18, 10], [10, 18]), ([19, 17, 10], [10, 19]), ([12, 14, 17, 20, 20, 10], [10, 12, 14, 17, 20]), ([10, 21], [10, 21]), ([22, 21, 0, 1, 2, 3, 4, 5, 6, 7, 8, 9, 10, 11, 12, 13, 14, 15, 16, 17, 18, 19, 20, 21, 22], [22])])
def impl_IsRule.B1 : List Nat := [0, 1, 0, 4, 15, 31, 63, 127, 255, 511, 1023, 2047, 4095, 2047, 10239, 2047, 34815, 100351, 2047, 264191, 1017855, 2097151, 4194303, 8388607]
theorem impl_IsRule.tab1 : rtab .any (opsOf Try.f55 1) = impl_IsRule.T1 := by kernel_rfl
theorem impl_IsRule.bits1 : waitsOk impl_IsRule.T1.2 impl_IsRule.B1 = true := by kernel_rfl
set_option maxHeartbeats 8000000 in
set_option maxRecDepth 100000 in
theorem impl_IsRule.calls (k : Nat) (a0_0 : Int) (A0_1 : Option Addr) (c0_1 : Nat) (l0_1 : List Int) (A0_2 : Option Addr) (c0_2 : Nat) (l0_2 : List Int) (r : Bool) (w : World) (hr0_1 : Kd.C (Kd.int .i64) w A0_1 l0_1.length l0_1) (hc0_1 : l0_1.length ≤ c0_1) (hr0_2 : Kd.C (Kd.int .i64) w A0_2 l0_2.length l0_2) (hc0_2 : l0_2.length ≤ c0_2) (h : impl_IsRule.f k a0_0 l0_1 l0_2 = some r) :
  Calls Try.prog 55 #[.agg #[.int .i64 a0_0, .slice A0_1 l0_1.length c0_1, .slice A0_2 l0_2.length c0_2]] w fun e w' => e = .returned (.bool r) ∧ Below w.heap.size w w' := by
 have hu51 := Try.underlying51
 have HR0_1 := zA hr0_1
 have HC0_1 := zA hc0_1
 clear hr0_1 hc0_1
 have HR0_2 := zA hr0_2
 have HC0_2 := zA hc0_2
 clear hr0_2 hc0_2
 have HB := zA (Below.refl w.heap.size w)
 have H : ((impl_areNumbers.f k a0_0 l0_1 0 24).bind fun t500 => (if t500 = true then ((impl_areAscending.f k l0_1).bind fun t501 => (if t501 = true then ((impl_length_int64.f l0_1).bind fun t502 => ((impl_length_int64.f l0_1).bind fun t503 => ((impl_areNumbers.f k a0_0 l0_2 t502 t503).bind fun t504 => (some t504)))) else (some false))) else (some false))) = some r := h
 clear h
 replace H := Option.bind_eq_some_iff.mp H
 obtain ⟨t500, A20, H⟩ := H
 replace H : (if t500 = true then ((impl_areAscending.f k l0_1).bind fun t501 => (if t501 = true then ((impl_length_int64.f l0_1).bind fun t502 => ((impl_length_int64.f l0_1).bind fun t503 => ((impl_areNumbers.f k a0_0 l0_2 t502 t503).bind fun t504 => (some t504)))) else (some false))) else (some false)) = some r := H
 have A2 := zA A20
 clear A20
 by_cases c3 : t500 = true
 ·subst c3
  have H1 : ((impl_areAscending.f k l0_1).bind fun t501 => (if t501 = true then ((impl_length_int64.f l0_1).bind fun t502 => ((impl_length_int64.f l0_1).bind fun t503 => ((impl_areNumbers.f k a0_0 l0_2 t502 t503).bind fun t504 => (some t504)))) else (some false))) = some r := by rw [if_pos rfl] at H; exact H
  clear H
  have H := H1
  clear H1
  replace H := Option.bind_eq_some_iff.mp H
  obtain ⟨t501, A40, H⟩ := H
  replace H : (if t501 = true then ((impl_length_int64.f l0_1).bind fun t502 => ((impl_length_int64.f l0_1).bind fun t503 => ((impl_areNumbers.f k a0_0 l0_2 t502 t503).bind fun t504 => (some t504)))) else (some false)) = some r := H
  have A4 := zA A40
  clear A40
  by_cases c5 : t501 = true
  ·subst c5
   have H1 : ((impl_length_int64.f l0_1).bind fun t502 => ((impl_length_int64.f l0_1).bind fun t503 => ((impl_areNumbers.f k a0_0 l0_2 t502 t503).bind fun t504 => (some t504)))) = some r := by rw [if_pos rfl] at H; exact H
   clear H
   have H := H1
   clear H1
   replace H := Option.bind_eq_some_iff.mp H
   obtain ⟨t502, A60, H⟩ := H
   replace H : ((impl_length_int64.f l0_1).bind fun t503 => ((impl_areNumbers.f k a0_0 l0_2 t502 t503).bind fun t504 => (some t504))) = some r := H
   have A6 := zA A60
   clear A60
   replace H := Option.bind_eq_some_iff.mp H
   obtain ⟨t503, A70, H⟩ := H
   replace H : ((impl_areNumbers.f k a0_0 l0_2 t502 t503).bind fun t504 => (some t504)) = some r := H
   have A7 := zA A70
   clear A70
   replace H := Option.bind_eq_some_iff.mp H
   obtain ⟨t504, A80, H⟩ := H
   replace H : (some t504) = some r := H
   have A8 := zA A80
   clear A80
   obtain rfl := Option.some.inj H
   go_enter Try.func55, Try.ntmps55
   try go_wp2_with (first | ((with_reducible refine gate_dst (N := 1) rfl ?_); refine bx 1 #[.int .i64 a0_0, .slice A0_1 l0_1.length c0_1, .slice A0_2 l0_2.length c0_2] 51 ?_; intro gb499 hg w9 hbox hb; have BK499 := zA (hbox); have GW499 := gq HB hg; have GE499 := gq HB hg; replace HB := xH HB hb; have := geI GE499; clear hb hbox hg))
   replace BK499 := zA (blk_drew BK499.out)
   replace HB := zA (below_drew1 HB.out)
   refine start_ (n := 24) (S := fun w' => w'.cell? ⟨gb499, 0, none⟩ = some (.int .i64 a0_0) ∧ w'.cell? ⟨gb499, 1, none⟩ = some (.slice A0_1 l0_1.length c0_1) ∧ w'.cell? ⟨gb499, 2, none⟩ = some (.slice A0_2 l0_2.length c0_2)) (ds := []) #[false, false, false, false, false, false, false, false, false, false, false, false, false, false, false, false, false, false, false, false, false, false, false, false] (by kernel_rfl) rfl rfl ⟨bcu BK499 0, bcu BK499 1, bcu BK499 2⟩ (fun hHeld => ?_); refine with_tabW impl_IsRule.tab1 impl_IsRule.bits1 (fun HT_ HW_ => ?_)
   generalize w9.drew = w10 at BK499 HB hHeld ⊢
   refine pu_ 0 3 (bl 24 1) HT_ ?_
   refine pu_ 2 5 (bl 24 5) HT_ ?_
   refine ta_ 1 4 (bl 24 7) HT_ HW_ hHeld ?_
   refine ta_ 3 6 (bl 24 15) HT_ HW_ hHeld ?_
   refine on_ 4 (some 7) (bl 24 31) HT_ (fun K hK => ?_)
   refine gS Try.func72 #[.int .i64 a0_0, .slice A0_1 l0_1.length c0_1, .int .i64 0, .int .i64 24] ?_
   with_reducible refine (impl_areNumbers.calls k a0_0 _ _ l0_1 0 24 true _ ?side1 ?side2 A2.out).mono ?_
   (case side1 => exact uC ((Kd.C_below HR0_1.out HB.out)))
   (case side2 => exact HC0_1.out)
   rintro e w11 ⟨rfl, hb⟩
   refine ⟨_, rfl, ?_⟩
   replace BK499 := xB BK499 hb
   replace HB := xH HB hb
   (try clear hb); (try clear hb2); (try clear hk); (try clear hi)
   refine hK.out _ _ ⟨bcu BK499 0, bcu BK499 1, bcu BK499 2⟩ (fun hHeld => ?_)
   clear hK K
   refine no_ 7 ?_
   refine pu_ 5 8 (bl 24 63) HT_ ?_
   refine pu_ 6 9 (bl 24 127) HT_ ?_
   refine ta_ 7 10 (bl 24 255) HT_ HW_ hHeld ?_
   refine on_ 8 (some 11) (bl 24 511) HT_ (fun K hK => ?_)
   refine gS Try.func73 #[.slice A0_1 l0_1.length c0_1] ?_
   with_reducible refine (impl_areAscending.calls k _ _ l0_1 true _ ?side1 ?side2 A4.out).mono ?_
   (case side1 => exact uC ((Kd.C_below HR0_1.out HB.out)))
   (case side2 => exact HC0_1.out)
   rintro e w' ⟨rfl, ⟨nd, rfl⟩⟩
   refine ⟨_, rfl, ?_⟩
   refine hK.out _ _ ⟨bcu BK499 0, bcu BK499 1, bcu BK499 2⟩ (fun hHeld => ?_)
   clear hK K
   refine no_ 11 ?_
   refine pu_ 9 12 (bl 24 1023) HT_ ?_
   refine pu_ 10 13 (bl 24 2047) HT_ ?_
   refine pu_ 11 14 (bl 24 4095) HT_ ?_
   refine pu_ 13 16 (bl 24 12287) HT_ ?_
   refine pu_ 15 18 (bl 24 45055) HT_ ?_
   refine pu_ 18 21 (bl 24 307199) HT_ ?_
   refine ta_ 12 15 (bl 24 311295) HT_ HW_ hHeld ?_
   refine ta_ 14 17 (bl 24 327679) HT_ HW_ hHeld ?_
   refine ta_ 16 19 (bl 24 393215) HT_ HW_ hHeld ?_
   refine ta_ 19 22 (bl 24 917503) HT_ HW_ hHeld ?_
   refine on_ 17 (some 20) (bl 24 1048575) HT_ (fun K hK => ?_)
   refine gS Try.func50 #[.slice A0_1 l0_1.length c0_1] ?_
   with_reducible refine (impl_length_int64.calls _ _ l0_1 t502 _ ?side1 ?side2 A6.out).mono ?_
   (case side1 => repeat (first | exact (Kd.C_below HR0_1.out (uH HB.out)) | (with_reducible refine Kd.C_alloc ?_ _) | (with_reducible refine Kd.C_drewN ?_ _) | (with_reducible refine Kd.C_drew ?_)))
   (case side2 => exact HC0_1.out)
   rintro e w' ⟨rfl, ⟨nd, rfl⟩⟩
   refine ⟨_, rfl, ?_⟩
   refine hK.out _ _ ⟨bcu BK499 0, bcu BK499 1, bcu BK499 2⟩ (fun hHeld => ?_)
   clear hK K
   refine no_ 20 ?_
   refine on_ 20 (some 23) (bl 24 2097151) HT_ (fun K hK => ?_)
   refine gS Try.func50 #[.slice A0_1 l0_1.length c0_1] ?_
   with_reducible refine (impl_length_int64.calls _ _ l0_1 t503 _ ?side1 ?side2 A7.out).mono ?_
   (case side1 => repeat (first | exact (Kd.C_below HR0_1.out (uH HB.out)) | (with_reducible refine Kd.C_alloc ?_ _) | (with_reducible refine Kd.C_drewN ?_ _) | (with_reducible refine Kd.C_drew ?_)))
   (case side2 => exact HC0_1.out)
   rintro e w' ⟨rfl, ⟨nd, rfl⟩⟩
   refine ⟨_, rfl, ?_⟩
   refine hK.out _ _ ⟨bcu BK499 0, bcu BK499 1, bcu BK499 2⟩ (fun hHeld => ?_)
   clear hK K
   refine no_ 23 ?_
   refine on_ 21 (some 24) (bl 24 4194303) HT_ (fun K hK => ?_)
   refine gS Try.func72 #[.int .i64 a0_0, .slice A0_2 l0_2.length c0_2, .int .i64 t502, .int .i64 t503] ?_
   with_reducible refine (impl_areNumbers.calls k a0_0 _ _ l0_2 t502 t503 t504 _ ?side1 ?side2 A8.out).mono ?_
   (case side1 => repeat (first | exact (Kd.C_below HR0_2.out (uH HB.out)) | (with_reducible refine Kd.C_alloc ?_ _) | (with_reducible refine Kd.C_drewN ?_ _) | (with_reducible refine Kd.C_drew ?_)))
   (case side2 => exact HC0_2.out)
   rintro e w12 ⟨rfl, hb⟩
   refine ⟨_, rfl, ?_⟩
   replace BK499 := xB BK499 hb
   replace HB := xH HB hb
   (try clear hb); (try clear hb2); (try clear hk); (try clear hi)
   refine hK.out _ _ ⟨bcu BK499 0, bcu BK499 1, bcu BK499 2⟩ (fun hHeld => ?_)
   clear hK K
   refine no_ 24 ?_
   refine pu_ 22 25 (bl 24 8388607) HT_ ?_
   refine pu_ 23 2 (bl 24 16777215) HT_ ?_
   refine done_ (done_of HT_.out (by kernel_rfl)) ?_
   try go_wp2
   go_ret
   exact ⟨by first | rfl | (simp [errW_none, errW_some] <;> rfl) | (simp [*, errW_none, errW_some] <;> rfl), uH HB.out⟩
  ·replace c5 := Bool.eq_false_iff.mpr c5
   subst c5
   have H1 : (some false) = some r := by rw [if_neg (show ¬ (false = true) by decide)] at H; exact H
   clear H
   have H := H1
   clear H1
   obtain rfl := Option.some.inj H
   go_enter Try.func55, Try.ntmps55
   try go_wp2_with (first | ((with_reducible refine gate_dst (N := 1) rfl ?_); refine bx 1 #[.int .i64 a0_0, .slice A0_1 l0_1.length c0_1, .slice A0_2 l0_2.length c0_2] 51 ?_; intro gb499 hg w13 hbox hb; have BK499 := zA (hbox); have GW499 := gq HB hg; have GE499 := gq HB hg; replace HB := xH HB hb; have := geI GE499; clear hb hbox hg))
   replace BK499 := zA (blk_drew BK499.out)
   replace HB := zA (below_drew1 HB.out)
   refine start_ (n := 24) (S := fun w' => w'.cell? ⟨gb499, 0, none⟩ = some (.int .i64 a0_0) ∧ w'.cell? ⟨gb499, 1, none⟩ = some (.slice A0_1 l0_1.length c0_1) ∧ w'.cell? ⟨gb499, 2, none⟩ = some (.slice A0_2 l0_2.length c0_2)) (ds := []) #[false, false, false, false, false, false, false, false, false, false, false, false, false, false, false, false, false, false, false, false, false, false, false, false] (by kernel_rfl) rfl rfl ⟨bcu BK499 0, bcu BK499 1, bcu BK499 2⟩ (fun hHeld => ?_); refine with_tabW impl_IsRule.tab1 impl_IsRule.bits1 (fun HT_ HW_ => ?_)
   generalize w13.drew = w14 at BK499 HB hHeld ⊢
   refine pu_ 0 3 (bl 24 1) HT_ ?_
   refine pu_ 2 5 (bl 24 5) HT_ ?_
   refine ta_ 1 4 (bl 24 7) HT_ HW_ hHeld ?_
   refine ta_ 3 6 (bl 24 15) HT_ HW_ hHeld ?_
   refine on_ 4 (some 7) (bl 24 31) HT_ (fun K hK => ?_)
   refine gS Try.func72 #[.int .i64 a0_0, .slice A0_1 l0_1.length c0_1, .int .i64 0, .int .i64 24] ?_
   with_reducible refine (impl_areNumbers.calls k a0_0 _ _ l0_1 0 24 true _ ?side1 ?side2 A2.out).mono ?_
   (case side1 => exact uC ((Kd.C_below HR0_1.out HB.out)))
   (case side2 => exact HC0_1.out)
   rintro e w15 ⟨rfl, hb⟩
   refine ⟨_, rfl, ?_⟩
   replace BK499 := xB BK499 hb
   replace HB := xH HB hb
   (try clear hb); (try clear hb2); (try clear hk); (try clear hi)
   refine hK.out _ _ ⟨bcu BK499 0, bcu BK499 1, bcu BK499 2⟩ (fun hHeld => ?_)
   clear hK K
   refine no_ 7 ?_
   refine pu_ 5 8 (bl 24 63) HT_ ?_
   refine pu_ 6 9 (bl 24 127) HT_ ?_
   refine ta_ 7 10 (bl 24 255) HT_ HW_ hHeld ?_
   refine on_ 8 (some 11) (bl 24 511) HT_ (fun K hK => ?_)
   refine gS Try.func73 #[.slice A0_1 l0_1.length c0_1] ?_
   with_reducible refine (impl_areAscending.calls k _ _ l0_1 false _ ?side1 ?side2 A4.out).mono ?_
   (case side1 => exact uC ((Kd.C_below HR0_1.out HB.out)))
   (case side2 => exact HC0_1.out)
   rintro e w' ⟨rfl, ⟨nd, rfl⟩⟩
   refine ⟨_, rfl, ?_⟩
   refine hK.out _ _ ⟨bcu BK499 0, bcu BK499 1, bcu BK499 2⟩ (fun hHeld => ?_)
   clear hK K
   refine no_ 11 ?_
   refine pu_ 9 12 (bl 24 1023) HT_ ?_
   refine pu_ 10 13 (bl 24 2047) HT_ ?_
   refine un_ 11 14 (bl 24 4095) HT_ ?_
   refine un_ 12 15 (bl 24 8191) HT_ ?_
   refine un_ 13 16 (bl 24 16383) HT_ ?_
   refine un_ 14 17 (bl 24 32767) HT_ ?_
   refine un_ 15 18 (bl 24 65535) HT_ ?_
   refine un_ 16 19 (bl 24 131071) HT_ ?_
   refine un_ 17 20 (bl 24 262143) HT_ ?_
   refine un_ 18 21 (bl 24 524287) HT_ ?_
   refine un_ 19 22 (bl 24 1048575) HT_ ?_
   refine un_ 20 23 (bl 24 2097151) HT_ ?_
   refine un_ 21 24 (bl 24 4194303) HT_ ?_
   refine pu_ 22 25 (bl 24 8388607) HT_ ?_
   refine pu_ 23 2 (bl 24 16777215) HT_ ?_
   refine done_ (done_of HT_.out (by kernel_rfl)) ?_
   try go_wp2
   go_ret
   exact ⟨by first | rfl | (simp [errW_none, errW_some] <;> rfl) | (simp [*, errW_none, errW_some] <;> rfl), uH HB.out⟩
 ·replace c3 := Bool.eq_false_iff.mpr c3
  subst c3
  have H1 : (some false) = some r := by rw [if_neg (show ¬ (false = true) by decide)] at H; exact H
  clear H
  have H := H1
  clear H1
  obtain rfl := Option.some.inj H
  go_enter Try.func55, Try.ntmps55
  try go_wp2_with (first | ((with_reducible refine gate_dst (N := 1) rfl ?_); refine bx 1 #[.int .i64 a0_0, .slice A0_1 l0_1.length c0_1, .slice A0_2 l0_2.length c0_2] 51 ?_; intro gb499 hg w16 hbox hb; have BK499 := zA (hbox); have GW499 := gq HB hg; have GE499 := gq HB hg; replace HB := xH HB hb; have := geI GE499; clear hb hbox hg))
  replace BK499 := zA (blk_drew BK499.out)
  replace HB := zA (below_drew1 HB.out)
  refine start_ (n := 24) (S := fun w' => w'.cell? ⟨gb499, 0, none⟩ = some (.int .i64 a0_0) ∧ w'.cell? ⟨gb499, 1, none⟩ = some (.slice A0_1 l0_1.length c0_1) ∧ w'.cell? ⟨gb499, 2, none⟩ = some (.slice A0_2 l0_2.length c0_2)) (ds := []) #[false, false, false, false, false, false, false, false, false, false, false, false, false, false, false, false, false, false, false, false, false, false, false, false] (by kernel_rfl) rfl rfl ⟨bcu BK499 0, bcu BK499 1, bcu BK499 2⟩ (fun hHeld => ?_); refine with_tabW impl_IsRule.tab1 impl_IsRule.bits1 (fun HT_ HW_ => ?_)
  generalize w16.drew = w17 at BK499 HB hHeld ⊢
  refine pu_ 0 3 (bl 24 1) HT_ ?_
  refine pu_ 2 5 (bl 24 5) HT_ ?_
  refine ta_ 1 4 (bl 24 7) HT_ HW_ hHeld ?_
  refine ta_ 3 6 (bl 24 15) HT_ HW_ hHeld ?_
  refine on_ 4 (some 7) (bl 24 31) HT_ (fun K hK => ?_)
  refine gS Try.func72 #[.int .i64 a0_0, .slice A0_1 l0_1.length c0_1, .int .i64 0, .int .i64 24] ?_
  with_reducible refine (impl_areNumbers.calls k a0_0 _ _ l0_1 0 24 false _ ?side1 ?side2 A2.out).mono ?_
  (case side1 => exact uC ((Kd.C_below HR0_1.out HB.out)))
  (case side2 => exact HC0_1.out)
  rintro e w18 ⟨rfl, hb⟩
  refine ⟨_, rfl, ?_⟩
  replace BK499 := xB BK499 hb
  replace HB := xH HB hb
  (try clear hb); (try clear hb2); (try clear hk); (try clear hi)
  refine hK.out _ _ ⟨bcu BK499 0, bcu BK499 1, bcu BK499 2⟩ (fun hHeld => ?_)
  clear hK K
  refine no_ 7 ?_
  refine pu_ 5 8 (bl 24 63) HT_ ?_
  refine un_ 6 9 (bl 24 127) HT_ ?_
  refine un_ 7 10 (bl 24 255) HT_ ?_
  refine un_ 8 11 (bl 24 511) HT_ ?_
  refine pu_ 9 12 (bl 24 1023) HT_ ?_
  refine pu_ 10 13 (bl 24 2047) HT_ ?_
  refine un_ 11 14 (bl 24 4095) HT_ ?_
  refine un_ 12 15 (bl 24 8191) HT_ ?_
  refine un_ 13 16 (bl 24 16383) HT_ ?_
  refine un_ 14 17 (bl 24 32767) HT_ ?_
  refine un_ 15 18 (bl 24 65535) HT_ ?_
  refine un_ 16 19 (bl 24 131071) HT_ ?_
  refine un_ 17 20 (bl 24 262143) HT_ ?_
  refine un_ 18 21 (bl 24 524287) HT_ ?_
  refine un_ 19 22 (bl 24 1048575) HT_ ?_
  refine un_ 20 23 (bl 24 2097151) HT_ ?_
  refine un_ 21 24 (bl 24 4194303) HT_ ?_
  refine pu_ 22 25 (bl 24 8388607) HT_ ?_
  refine pu_ 23 2 (bl 24 16777215) HT_ ?_
  refine done_ (done_of HT_.out (by kernel_rfl)) ?_
  try go_wp2
  go_ret
  exact ⟨by first | rfl | (simp [errW_none, errW_some] <;> rfl) | (simp [*, errW_none, errW_some] <;> rfl), uH HB.out⟩
end Go.Proofs.Ytjdannndpfkadaa.Pr
