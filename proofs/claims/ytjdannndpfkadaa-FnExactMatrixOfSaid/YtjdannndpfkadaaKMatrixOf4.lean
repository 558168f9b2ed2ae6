/- Texts of this session in one: what functions of the program compute, and plain facts of it, under the conditions that each theorem names. -/
import Derived.Test.YtjdannndpfkadaaKMatrixOf1
import Derived.Test.YtjdannndpfkadaaKMatrixOf2
import Derived.Test.YtjdannndpfkadaaKMatrixOf3
namespace Go.Proofs.Ytjdannndpfkadaa.Pr
open Go.RowKit Go.Proofs.YtjdannndpfkadaaW.PrintWords Go.Proofs.YtjdannndpfkadaaW.PrintLast Go.Proofs.YtjdannndpfkadaaW.PrintMore
attribute [local go_sem] max2_int min2_int max_two min_two max_three min_three max_four min_four   -- for this text's walks alone
set_option linter.unusedVariables false
set_option linter.unusedSimpArgs false
/-! ### impl_IsJacobi: function 63 -/
def impl_IsJacobi.f (k : Nat) (a0_0 : Int) (l0_1 : List Int) (l0_2 : List Int) : Option (Bool) := (impl_IsPrime.f k a0_0).bind fun t167 => (if t167 = true then ((impl_Jacobi_size.f a0_0 l0_1 l0_2).bind fun t168 => ((impl_within.f t168 1 12).bind fun t169 => (if t169 = true then (if (l0_2.length : Int) = (l0_1.length : Int) then ((impl_Jacobi_field.f a0_0 l0_1 l0_2).bind fun t170 => ((impl_areAll_int64.f l0_1 (fun z_ => impl_field_has.f t170 z_)).bind fun t171 => (if t171 = true then ((impl_Jacobi_field.f a0_0 l0_1 l0_2).bind fun t172 => ((impl_areAll_int64.f l0_2 (fun z_ => impl_field_isUnit.f t172 z_)).bind fun t173 => (some t173))) else (some false)))) else (some false)) else (some false)))) else (some false))
theorem impl_IsJacobi.mono : ∀ a0 a1 a2 k, LeO (impl_IsJacobi.f k a0 a1 a2) (impl_IsJacobi.f (k + 1) a0 a1 a2) := by
 intro a0 a1 a2 k
 unfold impl_IsJacobi.f
 repeat' first
   | (with_reducible exact impl_IsPrime.mono _ _)
   | (with_reducible exact LeO.refl _)
   | (with_reducible exact LeO.none _)
   | (with_reducible refine LeO.ite ?_ ?_)
   | (with_reducible refine LeO.bind ?_ (fun _ => ?_))
   | exact impl_IsPrime.mono _ _
   | exact LeO.none _
   | refine LeO.ite ?_ ?_
   | refine LeO.bind ?_ (fun _ => ?_)
def impl_IsJacobi.T1 : Bool × List (List Nat × List Nat) := (true, [([], []), ([0], [0]), ([1], [1]), ([2, 2], [2]), ([3], [3]), ([4, 3, 3], [3, 4]), ([5, 5, 3], [3, 5]), ([3, 6], [3, 6]), ([7, 6], [7]), ([8], [8]), ([9, 8], [8, 9]), ([10, 8], [8, 10]), ([8], [8]), ([12, 8], [8, 12]), ([13, 8], [8, 13]), ([11, 14, 8], [8, 11, 14]), ([8, 15], [8, 15]), ([16, 8], [16]), ([17], [17]), ([18, 17], [17, 18]), ([17], [17]), ([20, 17, 17], [17, 20]), ([21, 17], [17, 21]), ([19, 22, 21, 17], [17, 19, 22]), ([17, 23], [17, 23]), ([24, 23], [24]), ([25], [25]), ([26, 25], [25, 26]), ([25], [25]), ([28, 25, 25], [25, 28]), ([29, 25], [25, 29]), ([27, 30, 29, 25], [25, 27, 30]), ([25, 31], [25, 31]), ([32, 31, 0, 1, 2, 3, 4, 5, 6, 7, 8, 9, 10, 11, 12, 13, 14, 15, 16, 17, 18, 19, 20, 21, 22, 23, 24, 25, 26, 27, 28, 29, 30, 31, 32], [32])])
def impl_IsJacobi.B1 : List Nat := [0, 1, 3, 7, 15, 31, 63, 127, 255, 511, 1023, 2047, 511, 4607, 12799, 32767, 65535, 131071, 262143, 524287, 262143, 1310719, 3407871, 8388607, 16777215, 33554431, 67108863, 134217727, 67108863, 335544319, 872415231, 2147483647, 4294967295, 8589934591]
theorem impl_IsJacobi.tab1 : rtab .any (opsOf Try.f63 1) = impl_IsJacobi.T1 := by kernel_rfl
theorem impl_IsJacobi.bits1 : waitsOk impl_IsJacobi.T1.2 impl_IsJacobi.B1 = true := by kernel_rfl
set_option maxHeartbeats 8000000 in
set_option maxRecDepth 100000 in
theorem impl_IsJacobi.calls (k : Nat) (a0_0 : Int) (A0_1 : Option Addr) (c0_1 : Nat) (l0_1 : List Int) (A0_2 : Option Addr) (c0_2 : Nat) (l0_2 : List Int) (r : Bool) (w : World) (hr0_1 : Kd.C (Kd.int .i64) w A0_1 l0_1.length l0_1) (hc0_1 : l0_1.length ≤ c0_1) (hr0_2 : Kd.C (Kd.int .i64) w A0_2 l0_2.length l0_2) (hc0_2 : l0_2.length ≤ c0_2) (h : impl_IsJacobi.f k a0_0 l0_1 l0_2 = some r) :
  Calls Try.prog 63 #[.agg #[.int .i64 a0_0, .slice A0_1 l0_1.length c0_1, .slice A0_2 l0_2.length c0_2]] w fun e w' => e = .returned (.bool r) ∧ Below w.heap.size w w' := by
 have hu29 := Try.underlying29
 have hmf : ∀ (fn_ : Fn) (first_ cap_ : Array Value) (w_ : World), (Instr.makeFunc fn_ first_ cap_).run Try.prog w_ = .ok (.func fn_ first_ cap_) w_ := fun _ _ _ _ => rfl
 have HR0_1 := zA hr0_1
 have HC0_1 := zA hc0_1
 clear hr0_1 hc0_1
 have HR0_2 := zA hr0_2
 have HC0_2 := zA hc0_2
 clear hr0_2 hc0_2
 have HB := zA (Below.refl w.heap.size w)
 have H : ((impl_IsPrime.f k a0_0).bind fun t167 => (if t167 = true then ((impl_Jacobi_size.f a0_0 l0_1 l0_2).bind fun t168 => ((impl_within.f t168 1 12).bind fun t169 => (if t169 = true then (if (l0_2.length : Int) = (l0_1.length : Int) then ((impl_Jacobi_field.f a0_0 l0_1 l0_2).bind fun t170 => ((impl_areAll_int64.f l0_1 (fun z_ => impl_field_has.f t170 z_)).bind fun t171 => (if t171 = true then ((impl_Jacobi_field.f a0_0 l0_1 l0_2).bind fun t172 => ((impl_areAll_int64.f l0_2 (fun z_ => impl_field_isUnit.f t172 z_)).bind fun t173 => (some t173))) else (some false)))) else (some false)) else (some false)))) else (some false))) = some r := h
 clear h
 replace H := Option.bind_eq_some_iff.mp H
 obtain ⟨t167, A20, H⟩ := H
 replace H : (if t167 = true then ((impl_Jacobi_size.f a0_0 l0_1 l0_2).bind fun t168 => ((impl_within.f t168 1 12).bind fun t169 => (if t169 = true then (if (l0_2.length : Int) = (l0_1.length : Int) then ((impl_Jacobi_field.f a0_0 l0_1 l0_2).bind fun t170 => ((impl_areAll_int64.f l0_1 (fun z_ => impl_field_has.f t170 z_)).bind fun t171 => (if t171 = true then ((impl_Jacobi_field.f a0_0 l0_1 l0_2).bind fun t172 => ((impl_areAll_int64.f l0_2 (fun z_ => impl_field_isUnit.f t172 z_)).bind fun t173 => (some t173))) else (some false)))) else (some false)) else (some false)))) else (some false)) = some r := H
 have A2 := zA A20
 clear A20
 by_cases c3 : t167 = true
 ·subst c3
  have H1 : ((impl_Jacobi_size.f a0_0 l0_1 l0_2).bind fun t168 => ((impl_within.f t168 1 12).bind fun t169 => (if t169 = true then (if (l0_2.length : Int) = (l0_1.length : Int) then ((impl_Jacobi_field.f a0_0 l0_1 l0_2).bind fun t170 => ((impl_areAll_int64.f l0_1 (fun z_ => impl_field_has.f t170 z_)).bind fun t171 => (if t171 = true then ((impl_Jacobi_field.f a0_0 l0_1 l0_2).bind fun t172 => ((impl_areAll_int64.f l0_2 (fun z_ => impl_field_isUnit.f t172 z_)).bind fun t173 => (some t173))) else (some false)))) else (some false)) else (some false)))) = some r := by rw [if_pos rfl] at H; exact H
  clear H
  have H := H1
  clear H1
  replace H := Option.bind_eq_some_iff.mp H
  obtain ⟨t168, A40, H⟩ := H
  replace H : ((impl_within.f t168 1 12).bind fun t169 => (if t169 = true then (if (l0_2.length : Int) = (l0_1.length : Int) then ((impl_Jacobi_field.f a0_0 l0_1 l0_2).bind fun t170 => ((impl_areAll_int64.f l0_1 (fun z_ => impl_field_has.f t170 z_)).bind fun t171 => (if t171 = true then ((impl_Jacobi_field.f a0_0 l0_1 l0_2).bind fun t172 => ((impl_areAll_int64.f l0_2 (fun z_ => impl_field_isUnit.f t172 z_)).bind fun t173 => (some t173))) else (some false)))) else (some false)) else (some false))) = some r := H
  have A4 := zA A40
  clear A40
  replace H := Option.bind_eq_some_iff.mp H
  obtain ⟨t169, A50, H⟩ := H
  replace H : (if t169 = true then (if (l0_2.length : Int) = (l0_1.length : Int) then ((impl_Jacobi_field.f a0_0 l0_1 l0_2).bind fun t170 => ((impl_areAll_int64.f l0_1 (fun z_ => impl_field_has.f t170 z_)).bind fun t171 => (if t171 = true then ((impl_Jacobi_field.f a0_0 l0_1 l0_2).bind fun t172 => ((impl_areAll_int64.f l0_2 (fun z_ => impl_field_isUnit.f t172 z_)).bind fun t173 => (some t173))) else (some false)))) else (some false)) else (some false)) = some r := H
  have A5 := zA A50
  clear A50
  by_cases c6 : t169 = true
  ·subst c6
   have H1 : (if (l0_2.length : Int) = (l0_1.length : Int) then ((impl_Jacobi_field.f a0_0 l0_1 l0_2).bind fun t170 => ((impl_areAll_int64.f l0_1 (fun z_ => impl_field_has.f t170 z_)).bind fun t171 => (if t171 = true then ((impl_Jacobi_field.f a0_0 l0_1 l0_2).bind fun t172 => ((impl_areAll_int64.f l0_2 (fun z_ => impl_field_isUnit.f t172 z_)).bind fun t173 => (some t173))) else (some false)))) else (some false)) = some r := by rw [if_pos rfl] at H; exact H
   clear H
   have H := H1
   clear H1
   by_cases c7 : (l0_2.length : Int) = (l0_1.length : Int)
   rotate_left
   ·rw [if_neg c7] at H
    have c7b0 : ((l0_2.length : Int) == (l0_1.length : Int)) = false := beq_eq_false_iff_ne.mpr c7
    have c7b1 : ((l0_2.length : Int) != (l0_1.length : Int)) = true := bne_iff_ne.mpr c7
    have c7b2 : (l0_2.length == l0_1.length) = false := by first | simpa using c7 | (simp at c7 ⊢; omega)
    obtain rfl := Option.some.inj H
    go_enter Try.func63, Try.ntmps63
    try go_wp2_with (first | ((with_reducible refine gate_dst (N := 1) rfl ?_); (try (refine gate_guard (by rfl) ?_; dsimp only)); refine bx 1 #[.int .i64 a0_0, .slice A0_1 l0_1.length c0_1, .slice A0_2 l0_2.length c0_2] 29 ?_; intro gb166 hg w25 hbox hb; have BK166 := zA (hbox); have GW166 := gq HB hg; have GE166 := gq HB hg; replace HB := xH HB hb; have := geI GE166; clear hb hbox hg))
    replace BK166 := zA (blk_drew BK166.out)
    replace HB := zA (below_drew1 HB.out)
    refine start_ (n := 34) (S := fun w' => w'.cell? ⟨gb166, 0, none⟩ = some (.int .i64 a0_0) ∧ w'.cell? ⟨gb166, 1, none⟩ = some (.slice A0_1 l0_1.length c0_1) ∧ w'.cell? ⟨gb166, 2, none⟩ = some (.slice A0_2 l0_2.length c0_2)) (ds := []) #[false, false, false, false, false, false, false, false, false, false, false, false, false, false, false, false, false, false, false, false, false, false, false, false, false, false, false, false, false, false, false, false, false, false] (by kernel_rfl) rfl rfl ⟨bcu BK166 0, bcu BK166 1, bcu BK166 2⟩ (fun hHeld => ?_); refine with_tabW impl_IsJacobi.tab1 impl_IsJacobi.bits1 (fun HT_ HW_ => ?_)
    generalize w25.drew = w26 at BK166 HB hHeld ⊢
    refine pu_ 0 3 (bl 34 1) HT_ ?_
    refine ta_ 1 4 (bl 34 3) HT_ HW_ hHeld ?_
    refine on_ 2 (some 5) (bl 34 7) HT_ (fun K hK => ?_)
    refine gS Try.func77 #[.int .i64 a0_0] ?_
    with_reducible refine (impl_IsPrime.calls k a0_0 true _ A2.out).mono ?_
    rintro e w' ⟨rfl, ⟨nd, rfl⟩⟩
    refine ⟨_, rfl, ?_⟩
    refine hK.out _ _ ⟨bcu BK166 0, bcu BK166 1, bcu BK166 2⟩ (fun hHeld => ?_)
    clear hK K
    refine no_ 5 ?_
    refine pu_ 3 6 (bl 34 15) HT_ ?_
    refine ta_ 4 7 (bl 34 31) HT_ HW_ hHeld ?_
    refine on_ 5 (some 8) (bl 34 63) HT_ (fun K hK => ?_)
    refine gS Try.func78 #[.agg #[.int .i64 a0_0, .slice A0_1 l0_1.length c0_1, .slice A0_2 l0_2.length c0_2]] ?_
    with_reducible refine (impl_Jacobi_size.calls a0_0 _ _ l0_1 _ _ l0_2 t168 _ ?side1 ?side2 ?side3 ?side4 A4.out).mono ?_
    (case side1 => repeat (first | exact (Kd.C_below HR0_1.out (uH HB.out)) | (with_reducible refine Kd.C_alloc ?_ _) | (with_reducible refine Kd.C_drewN ?_ _) | (with_reducible refine Kd.C_drew ?_)))
    (case side2 => exact HC0_1.out)
    (case side3 => repeat (first | exact (Kd.C_below HR0_2.out (uH HB.out)) | (with_reducible refine Kd.C_alloc ?_ _) | (with_reducible refine Kd.C_drewN ?_ _) | (with_reducible refine Kd.C_drew ?_)))
    (case side4 => exact HC0_2.out)
    rintro e w27 ⟨rfl, hb⟩
    refine ⟨_, rfl, ?_⟩
    replace BK166 := xB BK166 hb
    replace HB := xH HB hb
    (try clear hb); (try clear hb2); (try clear hk); (try clear hi)
    refine hK.out _ _ ⟨bcu BK166 0, bcu BK166 1, bcu BK166 2⟩ (fun hHeld => ?_)
    clear hK K
    refine no_ 8 ?_
    refine on_ 6 (some 9) (bl 34 127) HT_ (fun K hK => ?_)
    refine gS Try.func76 #[.int .i64 t168, .int .i64 1, .int .i64 12] ?_
    with_reducible refine (impl_within.calls t168 1 12 true _ A5.out).mono ?_
    rintro e w' ⟨rfl, ⟨nd, rfl⟩⟩
    refine ⟨_, rfl, ?_⟩
    refine hK.out _ _ ⟨bcu BK166 0, bcu BK166 1, bcu BK166 2⟩ (fun hHeld => ?_)
    clear hK K
    refine no_ 9 ?_
    refine pu_ 7 10 (bl 34 255) HT_ ?_
    refine pu_ 8 11 (bl 34 511) HT_ ?_
    refine pu_ 9 12 (bl 34 1023) HT_ ?_
    refine pu_ 12 15 (bl 34 5119) HT_ ?_
    refine ta_ 10 13 (bl 34 6143) HT_ HW_ hHeld ?_
    refine pu_ 11 14 (bl 34 8191) HT_ ?_
    refine ta_ 13 16 (bl 34 16383) HT_ HW_ hHeld ?_
    refine pu_ 14 17 (bl 34 32767) HT_ ?_
    refine pu_ 15 18 (bl 34 65535) HT_ ?_
    refine pu_ 16 19 (bl 34 131071) HT_ ?_
    refine pu_ 17 20 (bl 34 262143) HT_ ?_
    refine un_ 18 21 (bl 34 524287) HT_ ?_
    refine un_ 19 22 (bl 34 1048575) HT_ ?_
    refine un_ 20 23 (bl 34 2097151) HT_ ?_
    refine un_ 21 24 (bl 34 4194303) HT_ ?_
    refine un_ 22 25 (bl 34 8388607) HT_ ?_
    refine un_ 23 26 (bl 34 16777215) HT_ ?_
    refine pu_ 24 27 (bl 34 33554431) HT_ ?_
    refine pu_ 25 28 (bl 34 67108863) HT_ ?_
    refine un_ 26 29 (bl 34 134217727) HT_ ?_
    refine un_ 27 30 (bl 34 268435455) HT_ ?_
    refine un_ 28 31 (bl 34 536870911) HT_ ?_
    refine un_ 29 32 (bl 34 1073741823) HT_ ?_
    refine un_ 30 33 (bl 34 2147483647) HT_ ?_
    refine un_ 31 34 (bl 34 4294967295) HT_ ?_
    refine pu_ 32 35 (bl 34 8589934591) HT_ ?_
    refine pu_ 33 2 (bl 34 17179869183) HT_ ?_
    refine done_ (done_of HT_.out (by kernel_rfl)) ?_
    try go_wp2
    go_ret
    exact ⟨by first | rfl | (simp [errW_none, errW_some] <;> rfl) | (simp [*, errW_none, errW_some] <;> rfl), uH HB.out⟩
   rw [if_pos c7] at H
   have c7b0 : ((l0_2.length : Int) == (l0_1.length : Int)) = true := beq_iff_eq.mpr c7
   have c7b1 : ((l0_2.length : Int) != (l0_1.length : Int)) = false := bne_eq_false_iff_eq.mpr c7
   have c7b2 : (l0_2.length == l0_1.length) = true := by first | simpa using c7 | (simp at c7 ⊢; omega)
   clear c7
   replace H := Option.bind_eq_some_iff.mp H
   obtain ⟨t170, A80, H⟩ := H
   replace H : ((impl_areAll_int64.f l0_1 (fun z_ => impl_field_has.f t170 z_)).bind fun t171 => (if t171 = true then ((impl_Jacobi_field.f a0_0 l0_1 l0_2).bind fun t172 => ((impl_areAll_int64.f l0_2 (fun z_ => impl_field_isUnit.f t172 z_)).bind fun t173 => (some t173))) else (some false))) = some r := H
   have A8 := zA A80
   clear A80
   replace H := Option.bind_eq_some_iff.mp H
   obtain ⟨t171, A90, H⟩ := H
   replace H : (if t171 = true then ((impl_Jacobi_field.f a0_0 l0_1 l0_2).bind fun t172 => ((impl_areAll_int64.f l0_2 (fun z_ => impl_field_isUnit.f t172 z_)).bind fun t173 => (some t173))) else (some false)) = some r := H
   have A9 := zA A90
   clear A90
   by_cases c10 : t171 = true
   ·subst c10
    have H1 : ((impl_Jacobi_field.f a0_0 l0_1 l0_2).bind fun t172 => ((impl_areAll_int64.f l0_2 (fun z_ => impl_field_isUnit.f t172 z_)).bind fun t173 => (some t173))) = some r := by rw [if_pos rfl] at H; exact H
    clear H
    have H := H1
    clear H1
    replace H := Option.bind_eq_some_iff.mp H
    obtain ⟨t172, A110, H⟩ := H
    replace H : ((impl_areAll_int64.f l0_2 (fun z_ => impl_field_isUnit.f t172 z_)).bind fun t173 => (some t173)) = some r := H
    have A11 := zA A110
    clear A110
    replace H := Option.bind_eq_some_iff.mp H
    obtain ⟨t173, A120, H⟩ := H
    replace H : (some t173) = some r := H
    have A12 := zA A120
    clear A120
    obtain rfl := Option.some.inj H
    go_enter Try.func63, Try.ntmps63
    try go_wp2_with (first | ((with_reducible refine gate_dst (N := 1) rfl ?_); (try (refine gate_guard (by rfl) ?_; dsimp only)); refine bx 1 #[.int .i64 a0_0, .slice A0_1 l0_1.length c0_1, .slice A0_2 l0_2.length c0_2] 29 ?_; intro gb166 hg w13 hbox hb; have BK166 := zA (hbox); have GW166 := gq HB hg; have GE166 := gq HB hg; replace HB := xH HB hb; have := geI GE166; clear hb hbox hg))
    replace BK166 := zA (blk_drew BK166.out)
    replace HB := zA (below_drew1 HB.out)
    refine start_ (n := 34) (S := fun w' => w'.cell? ⟨gb166, 0, none⟩ = some (.int .i64 a0_0) ∧ w'.cell? ⟨gb166, 1, none⟩ = some (.slice A0_1 l0_1.length c0_1) ∧ w'.cell? ⟨gb166, 2, none⟩ = some (.slice A0_2 l0_2.length c0_2)) (ds := []) #[false, false, false, false, false, false, false, false, false, false, false, false, false, false, false, false, false, false, false, false, false, false, false, false, false, false, false, false, false, false, false, false, false, false] (by kernel_rfl) rfl rfl ⟨bcu BK166 0, bcu BK166 1, bcu BK166 2⟩ (fun hHeld => ?_); refine with_tabW impl_IsJacobi.tab1 impl_IsJacobi.bits1 (fun HT_ HW_ => ?_)
    generalize w13.drew = w14 at BK166 HB hHeld ⊢
    refine pu_ 0 3 (bl 34 1) HT_ ?_
    refine ta_ 1 4 (bl 34 3) HT_ HW_ hHeld ?_
    refine on_ 2 (some 5) (bl 34 7) HT_ (fun K hK => ?_)
    refine gS Try.func77 #[.int .i64 a0_0] ?_
    with_reducible refine (impl_IsPrime.calls k a0_0 true _ A2.out).mono ?_
    rintro e w' ⟨rfl, ⟨nd, rfl⟩⟩
    refine ⟨_, rfl, ?_⟩
    refine hK.out _ _ ⟨bcu BK166 0, bcu BK166 1, bcu BK166 2⟩ (fun hHeld => ?_)
    clear hK K
    refine no_ 5 ?_
    refine pu_ 3 6 (bl 34 15) HT_ ?_
    refine ta_ 4 7 (bl 34 31) HT_ HW_ hHeld ?_
    refine on_ 5 (some 8) (bl 34 63) HT_ (fun K hK => ?_)
    refine gS Try.func78 #[.agg #[.int .i64 a0_0, .slice A0_1 l0_1.length c0_1, .slice A0_2 l0_2.length c0_2]] ?_
    with_reducible refine (impl_Jacobi_size.calls a0_0 _ _ l0_1 _ _ l0_2 t168 _ ?side1 ?side2 ?side3 ?side4 A4.out).mono ?_
    (case side1 => repeat (first | exact (Kd.C_below HR0_1.out (uH HB.out)) | (with_reducible refine Kd.C_alloc ?_ _) | (with_reducible refine Kd.C_drewN ?_ _) | (with_reducible refine Kd.C_drew ?_)))
    (case side2 => exact HC0_1.out)
    (case side3 => repeat (first | exact (Kd.C_below HR0_2.out (uH HB.out)) | (with_reducible refine Kd.C_alloc ?_ _) | (with_reducible refine Kd.C_drewN ?_ _) | (with_reducible refine Kd.C_drew ?_)))
    (case side4 => exact HC0_2.out)
    rintro e w15 ⟨rfl, hb⟩
    refine ⟨_, rfl, ?_⟩
    replace BK166 := xB BK166 hb
    replace HB := xH HB hb
    (try clear hb); (try clear hb2); (try clear hk); (try clear hi)
    refine hK.out _ _ ⟨bcu BK166 0, bcu BK166 1, bcu BK166 2⟩ (fun hHeld => ?_)
    clear hK K
    refine no_ 8 ?_
    refine on_ 6 (some 9) (bl 34 127) HT_ (fun K hK => ?_)
    refine gS Try.func76 #[.int .i64 t168, .int .i64 1, .int .i64 12] ?_
    with_reducible refine (impl_within.calls t168 1 12 true _ A5.out).mono ?_
    rintro e w' ⟨rfl, ⟨nd, rfl⟩⟩
    refine ⟨_, rfl, ?_⟩
    refine hK.out _ _ ⟨bcu BK166 0, bcu BK166 1, bcu BK166 2⟩ (fun hHeld => ?_)
    clear hK K
    refine no_ 9 ?_
    refine pu_ 7 10 (bl 34 255) HT_ ?_
    refine pu_ 8 11 (bl 34 511) HT_ ?_
    refine pu_ 9 12 (bl 34 1023) HT_ ?_
    refine pu_ 12 15 (bl 34 5119) HT_ ?_
    refine ta_ 10 13 (bl 34 6143) HT_ HW_ hHeld ?_
    refine pu_ 11 14 (bl 34 8191) HT_ ?_
    refine ta_ 13 16 (bl 34 16383) HT_ HW_ hHeld ?_
    refine pu_ 14 17 (bl 34 32767) HT_ ?_
    refine pu_ 15 18 (bl 34 65535) HT_ ?_
    refine pu_ 16 19 (bl 34 131071) HT_ ?_
    refine pu_ 17 20 (bl 34 262143) HT_ ?_
    refine pu_ 18 21 (bl 34 524287) HT_ ?_
    refine ta_ 19 22 (bl 34 1048575) HT_ HW_ hHeld ?_
    refine ta_ 20 23 (bl 34 2097151) HT_ HW_ hHeld ?_
    refine on_ 21 (some 24) (bl 34 4194303) HT_ (fun K hK => ?_)
    refine gS Try.func79 #[.agg #[.int .i64 a0_0, .slice A0_1 l0_1.length c0_1, .slice A0_2 l0_2.length c0_2]] ?_
    with_reducible refine (impl_Jacobi_field.calls a0_0 _ _ l0_1 _ _ l0_2 t170 _ ?side1 ?side2 ?side3 ?side4 A8.out).mono ?_
    (case side1 => repeat (first | exact (Kd.C_below HR0_1.out (uH HB.out)) | (with_reducible refine Kd.C_alloc ?_ _) | (with_reducible refine Kd.C_drewN ?_ _) | (with_reducible refine Kd.C_drew ?_)))
    (case side2 => exact HC0_1.out)
    (case side3 => repeat (first | exact (Kd.C_below HR0_2.out (uH HB.out)) | (with_reducible refine Kd.C_alloc ?_ _) | (with_reducible refine Kd.C_drewN ?_ _) | (with_reducible refine Kd.C_drew ?_)))
    (case side4 => exact HC0_2.out)
    rintro e w16 ⟨rfl, hb⟩
    refine ⟨_, rfl, ?_⟩
    replace BK166 := xB BK166 hb
    replace HB := xH HB hb
    (try clear hb); (try clear hb2); (try clear hk); (try clear hi)
    refine hK.out _ _ ⟨bcu BK166 0, bcu BK166 1, bcu BK166 2⟩ (fun hHeld => ?_)
    clear hK K
    refine no_ 24 ?_
    refine pu_ 22 25 (bl 34 8388607) HT_ ?_
    refine on_ 23 (some 26) (bl 34 16777215) HT_ (fun K hK => ?_)
    refine gS Try.func68 #[.slice A0_1 l0_1.length c0_1, (.func (.func 57) #[.int .i64 t170] #[])] ?_
    with_reducible refine (impl_areAll_int64.calls _ _ l0_1 _ (fun z_ => impl_field_has.f t170 z_) true _ ?side1 ?side2 ?side3 A9.out).mono ?_
    (case side1 => exact uC ((Kd.C_below HR0_1.out HB.out)))
    (case side2 => exact HC0_1.out)
    (case side3 => exact FnI.of Try.func57 (by kernel_rfl) rfl (fun z_ r_ hr_ W_ hW_ => calls_of_args (args' := #[.int .i64 t170, .int .i64 z_]) (by simp) ((impl_field_has.calls t170 z_ r_ W_  hr_).mono fun e_ W2_ h_ => ⟨h_.1, h_.2.below⟩)))
    rintro e w17 ⟨rfl, hb⟩
    refine ⟨_, rfl, ?_⟩
    replace BK166 := xB BK166 hb
    replace HB := xH HB hb
    (try clear hb); (try clear hb2); (try clear hk); (try clear hi)
    refine hK.out _ _ ⟨bcu BK166 0, bcu BK166 1, bcu BK166 2⟩ (fun hHeld => ?_)
    clear hK K
    refine no_ 26 ?_
    refine pu_ 24 27 (bl 34 33554431) HT_ ?_
    refine pu_ 25 28 (bl 34 67108863) HT_ ?_
    refine pu_ 26 29 (bl 34 134217727) HT_ ?_
    refine ta_ 27 30 (bl 34 268435455) HT_ HW_ hHeld ?_
    refine ta_ 28 31 (bl 34 536870911) HT_ HW_ hHeld ?_
    refine on_ 29 (some 32) (bl 34 1073741823) HT_ (fun K hK => ?_)
    refine gS Try.func79 #[.agg #[.int .i64 a0_0, .slice A0_1 l0_1.length c0_1, .slice A0_2 l0_2.length c0_2]] ?_
    with_reducible refine (impl_Jacobi_field.calls a0_0 _ _ l0_1 _ _ l0_2 t172 _ ?side1 ?side2 ?side3 ?side4 A11.out).mono ?_
    (case side1 => exact uC ((Kd.C_below HR0_1.out HB.out)))
    (case side2 => exact HC0_1.out)
    (case side3 => exact uC ((Kd.C_below HR0_2.out HB.out)))
    (case side4 => exact HC0_2.out)
    rintro e w18 ⟨rfl, hb⟩
    refine ⟨_, rfl, ?_⟩
    replace BK166 := xB BK166 hb
    replace HB := xH HB hb
    (try clear hb); (try clear hb2); (try clear hk); (try clear hi)
    refine hK.out _ _ ⟨bcu BK166 0, bcu BK166 1, bcu BK166 2⟩ (fun hHeld => ?_)
    clear hK K
    refine no_ 32 ?_
    refine pu_ 30 33 (bl 34 2147483647) HT_ ?_
    refine on_ 31 (some 34) (bl 34 4294967295) HT_ (fun K hK => ?_)
    refine gS Try.func68 #[.slice A0_2 l0_2.length c0_2, (.func (.func 61) #[.int .i64 t172] #[])] ?_
    with_reducible refine (impl_areAll_int64.calls _ _ l0_2 _ (fun z_ => impl_field_isUnit.f t172 z_) t173 _ ?side1 ?side2 ?side3 A12.out).mono ?_
    (case side1 => exact uC ((Kd.C_below HR0_2.out HB.out)))
    (case side2 => exact HC0_2.out)
    (case side3 => exact FnI.of Try.func61 (by kernel_rfl) rfl (fun z_ r_ hr_ W_ hW_ => calls_of_args (args' := #[.int .i64 t172, .int .i64 z_]) (by simp) ((impl_field_isUnit.calls t172 z_ r_ W_  hr_).mono fun e_ W2_ h_ => ⟨h_.1, h_.2.below⟩)))
    rintro e w19 ⟨rfl, hb⟩
    refine ⟨_, rfl, ?_⟩
    replace BK166 := xB BK166 hb
    replace HB := xH HB hb
    (try clear hb); (try clear hb2); (try clear hk); (try clear hi)
    refine hK.out _ _ ⟨bcu BK166 0, bcu BK166 1, bcu BK166 2⟩ (fun hHeld => ?_)
    clear hK K
    refine no_ 34 ?_
    refine pu_ 32 35 (bl 34 8589934591) HT_ ?_
    refine pu_ 33 2 (bl 34 17179869183) HT_ ?_
    refine done_ (done_of HT_.out (by kernel_rfl)) ?_
    try go_wp2
    go_ret
    exact ⟨by first | rfl | (simp [errW_none, errW_some] <;> rfl) | (simp [*, errW_none, errW_some] <;> rfl), uH HB.out⟩
   ·replace c10 := Bool.eq_false_iff.mpr c10
    subst c10
    have H1 : (some false) = some r := by rw [if_neg (show ¬ (false = true) by decide)] at H; exact H
    clear H
    have H := H1
    clear H1
    obtain rfl := Option.some.inj H
    go_enter Try.func63, Try.ntmps63
    try go_wp2_with (first | ((with_reducible refine gate_dst (N := 1) rfl ?_); (try (refine gate_guard (by rfl) ?_; dsimp only)); refine bx 1 #[.int .i64 a0_0, .slice A0_1 l0_1.length c0_1, .slice A0_2 l0_2.length c0_2] 29 ?_; intro gb166 hg w20 hbox hb; have BK166 := zA (hbox); have GW166 := gq HB hg; have GE166 := gq HB hg; replace HB := xH HB hb; have := geI GE166; clear hb hbox hg))
    replace BK166 := zA (blk_drew BK166.out)
    replace HB := zA (below_drew1 HB.out)
    refine start_ (n := 34) (S := fun w' => w'.cell? ⟨gb166, 0, none⟩ = some (.int .i64 a0_0) ∧ w'.cell? ⟨gb166, 1, none⟩ = some (.slice A0_1 l0_1.length c0_1) ∧ w'.cell? ⟨gb166, 2, none⟩ = some (.slice A0_2 l0_2.length c0_2)) (ds := []) #[false, false, false, false, false, false, false, false, false, false, false, false, false, false, false, false, false, false, false, false, false, false, false, false, false, false, false, false, false, false, false, false, false, false] (by kernel_rfl) rfl rfl ⟨bcu BK166 0, bcu BK166 1, bcu BK166 2⟩ (fun hHeld => ?_); refine with_tabW impl_IsJacobi.tab1 impl_IsJacobi.bits1 (fun HT_ HW_ => ?_)
    generalize w20.drew = w21 at BK166 HB hHeld ⊢
    refine pu_ 0 3 (bl 34 1) HT_ ?_
    refine ta_ 1 4 (bl 34 3) HT_ HW_ hHeld ?_
    refine on_ 2 (some 5) (bl 34 7) HT_ (fun K hK => ?_)
    refine gS Try.func77 #[.int .i64 a0_0] ?_
    with_reducible refine (impl_IsPrime.calls k a0_0 true _ A2.out).mono ?_
    rintro e w' ⟨rfl, ⟨nd, rfl⟩⟩
    refine ⟨_, rfl, ?_⟩
    refine hK.out _ _ ⟨bcu BK166 0, bcu BK166 1, bcu BK166 2⟩ (fun hHeld => ?_)
    clear hK K
    refine no_ 5 ?_
    refine pu_ 3 6 (bl 34 15) HT_ ?_
    refine ta_ 4 7 (bl 34 31) HT_ HW_ hHeld ?_
    refine on_ 5 (some 8) (bl 34 63) HT_ (fun K hK => ?_)
    refine gS Try.func78 #[.agg #[.int .i64 a0_0, .slice A0_1 l0_1.length c0_1, .slice A0_2 l0_2.length c0_2]] ?_
    with_reducible refine (impl_Jacobi_size.calls a0_0 _ _ l0_1 _ _ l0_2 t168 _ ?side1 ?side2 ?side3 ?side4 A4.out).mono ?_
    (case side1 => repeat (first | exact (Kd.C_below HR0_1.out (uH HB.out)) | (with_reducible refine Kd.C_alloc ?_ _) | (with_reducible refine Kd.C_drewN ?_ _) | (with_reducible refine Kd.C_drew ?_)))
    (case side2 => exact HC0_1.out)
    (case side3 => repeat (first | exact (Kd.C_below HR0_2.out (uH HB.out)) | (with_reducible refine Kd.C_alloc ?_ _) | (with_reducible refine Kd.C_drewN ?_ _) | (with_reducible refine Kd.C_drew ?_)))
    (case side4 => exact HC0_2.out)
    rintro e w22 ⟨rfl, hb⟩
    refine ⟨_, rfl, ?_⟩
    replace BK166 := xB BK166 hb
    replace HB := xH HB hb
    (try clear hb); (try clear hb2); (try clear hk); (try clear hi)
    refine hK.out _ _ ⟨bcu BK166 0, bcu BK166 1, bcu BK166 2⟩ (fun hHeld => ?_)
    clear hK K
    refine no_ 8 ?_
    refine on_ 6 (some 9) (bl 34 127) HT_ (fun K hK => ?_)
    refine gS Try.func76 #[.int .i64 t168, .int .i64 1, .int .i64 12] ?_
    with_reducible refine (impl_within.calls t168 1 12 true _ A5.out).mono ?_
    rintro e w' ⟨rfl, ⟨nd, rfl⟩⟩
    refine ⟨_, rfl, ?_⟩
    refine hK.out _ _ ⟨bcu BK166 0, bcu BK166 1, bcu BK166 2⟩ (fun hHeld => ?_)
    clear hK K
    refine no_ 9 ?_
    refine pu_ 7 10 (bl 34 255) HT_ ?_
    refine pu_ 8 11 (bl 34 511) HT_ ?_
    refine pu_ 9 12 (bl 34 1023) HT_ ?_
    refine pu_ 12 15 (bl 34 5119) HT_ ?_
    refine ta_ 10 13 (bl 34 6143) HT_ HW_ hHeld ?_
    refine pu_ 11 14 (bl 34 8191) HT_ ?_
    refine ta_ 13 16 (bl 34 16383) HT_ HW_ hHeld ?_
    refine pu_ 14 17 (bl 34 32767) HT_ ?_
    refine pu_ 15 18 (bl 34 65535) HT_ ?_
    refine pu_ 16 19 (bl 34 131071) HT_ ?_
    refine pu_ 17 20 (bl 34 262143) HT_ ?_
    refine pu_ 18 21 (bl 34 524287) HT_ ?_
    refine ta_ 19 22 (bl 34 1048575) HT_ HW_ hHeld ?_
    refine ta_ 20 23 (bl 34 2097151) HT_ HW_ hHeld ?_
    refine on_ 21 (some 24) (bl 34 4194303) HT_ (fun K hK => ?_)
    refine gS Try.func79 #[.agg #[.int .i64 a0_0, .slice A0_1 l0_1.length c0_1, .slice A0_2 l0_2.length c0_2]] ?_
    with_reducible refine (impl_Jacobi_field.calls a0_0 _ _ l0_1 _ _ l0_2 t170 _ ?side1 ?side2 ?side3 ?side4 A8.out).mono ?_
    (case side1 => repeat (first | exact (Kd.C_below HR0_1.out (uH HB.out)) | (with_reducible refine Kd.C_alloc ?_ _) | (with_reducible refine Kd.C_drewN ?_ _) | (with_reducible refine Kd.C_drew ?_)))
    (case side2 => exact HC0_1.out)
    (case side3 => repeat (first | exact (Kd.C_below HR0_2.out (uH HB.out)) | (with_reducible refine Kd.C_alloc ?_ _) | (with_reducible refine Kd.C_drewN ?_ _) | (with_reducible refine Kd.C_drew ?_)))
    (case side4 => exact HC0_2.out)
    rintro e w23 ⟨rfl, hb⟩
    refine ⟨_, rfl, ?_⟩
    replace BK166 := xB BK166 hb
    replace HB := xH HB hb
    (try clear hb); (try clear hb2); (try clear hk); (try clear hi)
    refine hK.out _ _ ⟨bcu BK166 0, bcu BK166 1, bcu BK166 2⟩ (fun hHeld => ?_)
    clear hK K
    refine no_ 24 ?_
    refine pu_ 22 25 (bl 34 8388607) HT_ ?_
    refine on_ 23 (some 26) (bl 34 16777215) HT_ (fun K hK => ?_)
    refine gS Try.func68 #[.slice A0_1 l0_1.length c0_1, (.func (.func 57) #[.int .i64 t170] #[])] ?_
    with_reducible refine (impl_areAll_int64.calls _ _ l0_1 _ (fun z_ => impl_field_has.f t170 z_) false _ ?side1 ?side2 ?side3 A9.out).mono ?_
    (case side1 => exact uC ((Kd.C_below HR0_1.out HB.out)))
    (case side2 => exact HC0_1.out)
    (case side3 => exact FnI.of Try.func57 (by kernel_rfl) rfl (fun z_ r_ hr_ W_ hW_ => calls_of_args (args' := #[.int .i64 t170, .int .i64 z_]) (by simp) ((impl_field_has.calls t170 z_ r_ W_  hr_).mono fun e_ W2_ h_ => ⟨h_.1, h_.2.below⟩)))
    rintro e w24 ⟨rfl, hb⟩
    refine ⟨_, rfl, ?_⟩
    replace BK166 := xB BK166 hb
    replace HB := xH HB hb
    (try clear hb); (try clear hb2); (try clear hk); (try clear hi)
    refine hK.out _ _ ⟨bcu BK166 0, bcu BK166 1, bcu BK166 2⟩ (fun hHeld => ?_)
    clear hK K
    refine no_ 26 ?_
    refine pu_ 24 27 (bl 34 33554431) HT_ ?_
    refine pu_ 25 28 (bl 34 67108863) HT_ ?_
    refine un_ 26 29 (bl 34 134217727) HT_ ?_
    refine un_ 27 30 (bl 34 268435455) HT_ ?_
    refine un_ 28 31 (bl 34 536870911) HT_ ?_
    refine un_ 29 32 (bl 34 1073741823) HT_ ?_
    refine un_ 30 33 (bl 34 2147483647) HT_ ?_
    refine un_ 31 34 (bl 34 4294967295) HT_ ?_
    refine pu_ 32 35 (bl 34 8589934591) HT_ ?_
    refine pu_ 33 2 (bl 34 17179869183) HT_ ?_
    refine done_ (done_of HT_.out (by kernel_rfl)) ?_
    try go_wp2
    go_ret
    exact ⟨by first | rfl | (simp [errW_none, errW_some] <;> rfl) | (simp [*, errW_none, errW_some] <;> rfl), uH HB.out⟩
  ·replace c6 := Bool.eq_false_iff.mpr c6
   subst c6
   have H1 : (some false) = some r := by rw [if_neg (show ¬ (false = true) by decide)] at H; exact H
   clear H
   have H := H1
   clear H1
   obtain rfl := Option.some.inj H
   go_enter Try.func63, Try.ntmps63
   try go_wp2_with (first | ((with_reducible refine gate_dst (N := 1) rfl ?_); (try (refine gate_guard (by rfl) ?_; dsimp only)); refine bx 1 #[.int .i64 a0_0, .slice A0_1 l0_1.length c0_1, .slice A0_2 l0_2.length c0_2] 29 ?_; intro gb166 hg w28 hbox hb; have BK166 := zA (hbox); have GW166 := gq HB hg; have GE166 := gq HB hg; replace HB := xH HB hb; have := geI GE166; clear hb hbox hg))
   replace BK166 := zA (blk_drew BK166.out)
   replace HB := zA (below_drew1 HB.out)
   refine start_ (n := 34) (S := fun w' => w'.cell? ⟨gb166, 0, none⟩ = some (.int .i64 a0_0) ∧ w'.cell? ⟨gb166, 1, none⟩ = some (.slice A0_1 l0_1.length c0_1) ∧ w'.cell? ⟨gb166, 2, none⟩ = some (.slice A0_2 l0_2.length c0_2)) (ds := []) #[false, false, false, false, false, false, false, false, false, false, false, false, false, false, false, false, false, false, false, false, false, false, false, false, false, false, false, false, false, false, false, false, false, false] (by kernel_rfl) rfl rfl ⟨bcu BK166 0, bcu BK166 1, bcu BK166 2⟩ (fun hHeld => ?_); refine with_tabW impl_IsJacobi.tab1 impl_IsJacobi.bits1 (fun HT_ HW_ => ?_)
   generalize w28.drew = w29 at BK166 HB hHeld ⊢
   refine pu_ 0 3 (bl 34 1) HT_ ?_
   refine ta_ 1 4 (bl 34 3) HT_ HW_ hHeld ?_
   refine on_ 2 (some 5) (bl 34 7) HT_ (fun K hK => ?_)
   refine gS Try.func77 #[.int .i64 a0_0] ?_
   with_reducible refine (impl_IsPrime.calls k a0_0 true _ A2.out).mono ?_
   rintro e w' ⟨rfl, ⟨nd, rfl⟩⟩
   refine ⟨_, rfl, ?_⟩
   refine hK.out _ _ ⟨bcu BK166 0, bcu BK166 1, bcu BK166 2⟩ (fun hHeld => ?_)
   clear hK K
   refine no_ 5 ?_
   refine pu_ 3 6 (bl 34 15) HT_ ?_
   refine ta_ 4 7 (bl 34 31) HT_ HW_ hHeld ?_
   refine on_ 5 (some 8) (bl 34 63) HT_ (fun K hK => ?_)
   refine gS Try.func78 #[.agg #[.int .i64 a0_0, .slice A0_1 l0_1.length c0_1, .slice A0_2 l0_2.length c0_2]] ?_
   with_reducible refine (impl_Jacobi_size.calls a0_0 _ _ l0_1 _ _ l0_2 t168 _ ?side1 ?side2 ?side3 ?side4 A4.out).mono ?_
   (case side1 => repeat (first | exact (Kd.C_below HR0_1.out (uH HB.out)) | (with_reducible refine Kd.C_alloc ?_ _) | (with_reducible refine Kd.C_drewN ?_ _) | (with_reducible refine Kd.C_drew ?_)))
   (case side2 => exact HC0_1.out)
   (case side3 => repeat (first | exact (Kd.C_below HR0_2.out (uH HB.out)) | (with_reducible refine Kd.C_alloc ?_ _) | (with_reducible refine Kd.C_drewN ?_ _) | (with_reducible refine Kd.C_drew ?_)))
   (case side4 => exact HC0_2.out)
   rintro e w30 ⟨rfl, hb⟩
   refine ⟨_, rfl, ?_⟩
   replace BK166 := xB BK166 hb
   replace HB := xH HB hb
   (try clear hb); (try clear hb2); (try clear hk); (try clear hi)
   refine hK.out _ _ ⟨bcu BK166 0, bcu BK166 1, bcu BK166 2⟩ (fun hHeld => ?_)
   clear hK K
   refine no_ 8 ?_
   refine on_ 6 (some 9) (bl 34 127) HT_ (fun K hK => ?_)
   refine gS Try.func76 #[.int .i64 t168, .int .i64 1, .int .i64 12] ?_
   with_reducible refine (impl_within.calls t168 1 12 false _ A5.out).mono ?_
   rintro e w' ⟨rfl, ⟨nd, rfl⟩⟩
   refine ⟨_, rfl, ?_⟩
   refine hK.out _ _ ⟨bcu BK166 0, bcu BK166 1, bcu BK166 2⟩ (fun hHeld => ?_)
   clear hK K
   refine no_ 9 ?_
   refine pu_ 7 10 (bl 34 255) HT_ ?_
   refine pu_ 8 11 (bl 34 511) HT_ ?_
   refine un_ 9 12 (bl 34 1023) HT_ ?_
   refine un_ 10 13 (bl 34 2047) HT_ ?_
   refine un_ 11 14 (bl 34 4095) HT_ ?_
   refine un_ 12 15 (bl 34 8191) HT_ ?_
   refine un_ 13 16 (bl 34 16383) HT_ ?_
   refine un_ 14 17 (bl 34 32767) HT_ ?_
   refine un_ 15 18 (bl 34 65535) HT_ ?_
   refine pu_ 16 19 (bl 34 131071) HT_ ?_
   refine pu_ 17 20 (bl 34 262143) HT_ ?_
   refine un_ 18 21 (bl 34 524287) HT_ ?_
   refine un_ 19 22 (bl 34 1048575) HT_ ?_
   refine un_ 20 23 (bl 34 2097151) HT_ ?_
   refine un_ 21 24 (bl 34 4194303) HT_ ?_
   refine un_ 22 25 (bl 34 8388607) HT_ ?_
   refine un_ 23 26 (bl 34 16777215) HT_ ?_
   refine pu_ 24 27 (bl 34 33554431) HT_ ?_
   refine pu_ 25 28 (bl 34 67108863) HT_ ?_
   refine un_ 26 29 (bl 34 134217727) HT_ ?_
   refine un_ 27 30 (bl 34 268435455) HT_ ?_
   refine un_ 28 31 (bl 34 536870911) HT_ ?_
   refine un_ 29 32 (bl 34 1073741823) HT_ ?_
   refine un_ 30 33 (bl 34 2147483647) HT_ ?_
   refine un_ 31 34 (bl 34 4294967295) HT_ ?_
   refine pu_ 32 35 (bl 34 8589934591) HT_ ?_
   refine pu_ 33 2 (bl 34 17179869183) HT_ ?_
   refine done_ (done_of HT_.out (by kernel_rfl)) ?_
   try go_wp2
   go_ret
   exact ⟨by first | rfl | (simp [errW_none, errW_some] <;> rfl) | (simp [*, errW_none, errW_some] <;> rfl), uH HB.out⟩
 ·replace c3 := Bool.eq_false_iff.mpr c3
  subst c3
  have H1 : (some false) = some r := by rw [if_neg (show ¬ (false = true) by decide)] at H; exact H
  clear H
  have H := H1
  clear H1
  obtain rfl := Option.some.inj H
  go_enter Try.func63, Try.ntmps63
  try go_wp2_with (first | ((with_reducible refine gate_dst (N := 1) rfl ?_); (try (refine gate_guard (by rfl) ?_; dsimp only)); refine bx 1 #[.int .i64 a0_0, .slice A0_1 l0_1.length c0_1, .slice A0_2 l0_2.length c0_2] 29 ?_; intro gb166 hg w31 hbox hb; have BK166 := zA (hbox); have GW166 := gq HB hg; have GE166 := gq HB hg; replace HB := xH HB hb; have := geI GE166; clear hb hbox hg))
  replace BK166 := zA (blk_drew BK166.out)
  replace HB := zA (below_drew1 HB.out)
  refine start_ (n := 34) (S := fun w' => w'.cell? ⟨gb166, 0, none⟩ = some (.int .i64 a0_0) ∧ w'.cell? ⟨gb166, 1, none⟩ = some (.slice A0_1 l0_1.length c0_1) ∧ w'.cell? ⟨gb166, 2, none⟩ = some (.slice A0_2 l0_2.length c0_2)) (ds := []) #[false, false, false, false, false, false, false, false, false, false, false, false, false, false, false, false, false, false, false, false, false, false, false, false, false, false, false, false, false, false, false, false, false, false] (by kernel_rfl) rfl rfl ⟨bcu BK166 0, bcu BK166 1, bcu BK166 2⟩ (fun hHeld => ?_); refine with_tabW impl_IsJacobi.tab1 impl_IsJacobi.bits1 (fun HT_ HW_ => ?_)
  generalize w31.drew = w32 at BK166 HB hHeld ⊢
  refine pu_ 0 3 (bl 34 1) HT_ ?_
  refine ta_ 1 4 (bl 34 3) HT_ HW_ hHeld ?_
  refine on_ 2 (some 5) (bl 34 7) HT_ (fun K hK => ?_)
  refine gS Try.func77 #[.int .i64 a0_0] ?_
  with_reducible refine (impl_IsPrime.calls k a0_0 false _ A2.out).mono ?_
  rintro e w' ⟨rfl, ⟨nd, rfl⟩⟩
  refine ⟨_, rfl, ?_⟩
  refine hK.out _ _ ⟨bcu BK166 0, bcu BK166 1, bcu BK166 2⟩ (fun hHeld => ?_)
  clear hK K
  refine no_ 5 ?_
  refine pu_ 3 6 (bl 34 15) HT_ ?_
  refine un_ 4 7 (bl 34 31) HT_ ?_
  refine un_ 5 8 (bl 34 63) HT_ ?_
  refine un_ 6 9 (bl 34 127) HT_ ?_
  refine pu_ 7 10 (bl 34 255) HT_ ?_
  refine pu_ 8 11 (bl 34 511) HT_ ?_
  refine un_ 9 12 (bl 34 1023) HT_ ?_
  refine un_ 10 13 (bl 34 2047) HT_ ?_
  refine un_ 11 14 (bl 34 4095) HT_ ?_
  refine un_ 12 15 (bl 34 8191) HT_ ?_
  refine un_ 13 16 (bl 34 16383) HT_ ?_
  refine un_ 14 17 (bl 34 32767) HT_ ?_
  refine un_ 15 18 (bl 34 65535) HT_ ?_
  refine pu_ 16 19 (bl 34 131071) HT_ ?_
  refine pu_ 17 20 (bl 34 262143) HT_ ?_
  refine un_ 18 21 (bl 34 524287) HT_ ?_
  refine un_ 19 22 (bl 34 1048575) HT_ ?_
  refine un_ 20 23 (bl 34 2097151) HT_ ?_
  refine un_ 21 24 (bl 34 4194303) HT_ ?_
  refine un_ 22 25 (bl 34 8388607) HT_ ?_
  refine un_ 23 26 (bl 34 16777215) HT_ ?_
  refine pu_ 24 27 (bl 34 33554431) HT_ ?_
  refine pu_ 25 28 (bl 34 67108863) HT_ ?_
  refine un_ 26 29 (bl 34 134217727) HT_ ?_
  refine un_ 27 30 (bl 34 268435455) HT_ ?_
  refine un_ 28 31 (bl 34 536870911) HT_ ?_
  refine un_ 29 32 (bl 34 1073741823) HT_ ?_
  refine un_ 30 33 (bl 34 2147483647) HT_ ?_
  refine un_ 31 34 (bl 34 4294967295) HT_ ?_
  refine pu_ 32 35 (bl 34 8589934591) HT_ ?_
  refine pu_ 33 2 (bl 34 17179869183) HT_ ?_
  refine done_ (done_of HT_.out (by kernel_rfl)) ?_
  try go_wp2
  go_ret
  exact ⟨by first | rfl | (simp [errW_none, errW_some] <;> rfl) | (simp [*, errW_none, errW_some] <;> rfl), uH HB.out⟩
/-! ### impl_jacobiCode: function 38 -/
def impl_jacobiCode.f (k : Nat) (a0_0 : Int) (l0_1 : List Int) (l0_2 : List Int) (a1 : Bool) : Option (Int) := (impl_IsJacobi.f k a0_0 l0_1 l0_2).bind fun t175 => (if t175 = true then (if a1 = true then (some 0) else (some 2)) else (some 1))
theorem impl_jacobiCode.mono : ∀ a0 a1 a2 a3 k, LeO (impl_jacobiCode.f k a0 a1 a2 a3) (impl_jacobiCode.f (k + 1) a0 a1 a2 a3) := by
 intro a0 a1 a2 a3 k
 unfold impl_jacobiCode.f
 repeat' first
   | (with_reducible exact impl_IsJacobi.mono _ _ _ _)
   | (with_reducible exact LeO.refl _)
   | (with_reducible exact LeO.none _)
   | (with_reducible refine LeO.ite ?_ ?_)
   | (with_reducible refine LeO.bind ?_ (fun _ => ?_))
   | exact impl_IsJacobi.mono _ _ _ _
   | exact LeO.none _
   | refine LeO.ite ?_ ?_
   | refine LeO.bind ?_ (fun _ => ?_)
set_option maxHeartbeats 8000000 in
set_option maxRecDepth 100000 in
theorem impl_jacobiCode.calls (k : Nat) (a0_0 : Int) (A0_1 : Option Addr) (c0_1 : Nat) (l0_1 : List Int) (A0_2 : Option Addr) (c0_2 : Nat) (l0_2 : List Int) (a1 : Bool) (r : Int) (w : World) (hr0_1 : Kd.C (Kd.int .i64) w A0_1 l0_1.length l0_1) (hc0_1 : l0_1.length ≤ c0_1) (hr0_2 : Kd.C (Kd.int .i64) w A0_2 l0_2.length l0_2) (hc0_2 : l0_2.length ≤ c0_2) (h : impl_jacobiCode.f k a0_0 l0_1 l0_2 a1 = some r) :
  Calls Try.prog 38 #[.agg #[.int .i64 a0_0, .slice A0_1 l0_1.length c0_1, .slice A0_2 l0_2.length c0_2], .bool a1] w fun e w' => e = .returned (.int .i64 r) ∧ Below w.heap.size w w' := by
 have hu29 := Try.underlying29
 have HR0_1 := zA hr0_1
 have HC0_1 := zA hc0_1
 clear hr0_1 hc0_1
 have HR0_2 := zA hr0_2
 have HC0_2 := zA hc0_2
 clear hr0_2 hc0_2
 have HB := zA (Below.refl w.heap.size w)
 have H : ((impl_IsJacobi.f k a0_0 l0_1 l0_2).bind fun t175 => (if t175 = true then (if a1 = true then (some 0) else (some 2)) else (some 1))) = some r := h
 clear h
 replace H := Option.bind_eq_some_iff.mp H
 obtain ⟨t175, A30, H⟩ := H
 replace H : (if t175 = true then (if a1 = true then (some 0) else (some 2)) else (some 1)) = some r := H
 have A3 := zA A30
 clear A30
 by_cases c4 : t175 = true
 ·subst c4
  have H1 : (if a1 = true then (some 0) else (some 2)) = some r := by rw [if_pos rfl] at H; exact H
  clear H
  have H := H1
  clear H1
  by_cases c5 : a1 = true
  ·subst c5
   have H1 : (some 0) = some r := by rw [if_pos rfl] at H; exact H
   clear H
   have H := H1
   clear H1
   obtain rfl := Option.some.inj H
   go_enter Try.func38, Try.ntmps38
   go_wp2_with (first | ((with_reducible refine gate_dst (N := 2) rfl ?_); refine bx 2 #[.int .i64 a0_0, .slice A0_1 l0_1.length c0_1, .slice A0_2 l0_2.length c0_2] 29 ?_; intro gb174 hg w6 hbox hb; have BK174 := zA (hbox); have GW174 := gq HB hg; have GE174 := gq HB hg; replace HB := xH HB hb; have := geI GE174; clear hb hbox hg; have hcz7_0 := bc BK174 0; have hcz7_1 := bc BK174 1; have hcz7_2 := bc BK174 2; have hfz7_0 := bf BK174 0; have hfz7_1 := bf BK174 1; have hfz7_2 := bf BK174 2) | ((with_reducible refine gate_callee (f := 63) rfl ?_); refine gL (some 7) Try.func63 #[.agg #[.int .i64 a0_0, .slice A0_1 l0_1.length c0_1, .slice A0_2 l0_2.length c0_2]] ?_; (with_reducible refine (impl_IsJacobi.calls k a0_0 _ _ l0_1 _ _ l0_2 true _ ?side1 ?side2 ?side3 ?side4 A3.out).mono ?_); (case side1 => exact uC ((Kd.C_below HR0_1.out HB.out))); (case side2 => exact HC0_1.out); (case side3 => exact uC ((Kd.C_below HR0_2.out HB.out))); (case side4 => exact HC0_2.out); rintro e w8 ⟨rfl, hb⟩; refine ⟨_, rfl, ?_⟩; replace BK174 := xB BK174 hb; replace HB := xH HB hb; (try clear hb); (try clear hb2); (try clear hk); (try clear hi)))
   go_ret
   exact ⟨by first | rfl | (simp [errW_none, errW_some] <;> rfl) | (simp [*, errW_none, errW_some] <;> rfl), uH HB.out⟩
  ·replace c5 := Bool.eq_false_iff.mpr c5
   subst c5
   have H1 : (some 2) = some r := by rw [if_neg (show ¬ (false = true) by decide)] at H; exact H
   clear H
   have H := H1
   clear H1
   obtain rfl := Option.some.inj H
   go_enter Try.func38, Try.ntmps38
   go_wp2_with (first | ((with_reducible refine gate_dst (N := 2) rfl ?_); refine bx 2 #[.int .i64 a0_0, .slice A0_1 l0_1.length c0_1, .slice A0_2 l0_2.length c0_2] 29 ?_; intro gb174 hg w9 hbox hb; have BK174 := zA (hbox); have GW174 := gq HB hg; have GE174 := gq HB hg; replace HB := xH HB hb; have := geI GE174; clear hb hbox hg; have hcz10_0 := bc BK174 0; have hcz10_1 := bc BK174 1; have hcz10_2 := bc BK174 2; have hfz10_0 := bf BK174 0; have hfz10_1 := bf BK174 1; have hfz10_2 := bf BK174 2) | ((with_reducible refine gate_callee (f := 63) rfl ?_); refine gL (some 7) Try.func63 #[.agg #[.int .i64 a0_0, .slice A0_1 l0_1.length c0_1, .slice A0_2 l0_2.length c0_2]] ?_; (with_reducible refine (impl_IsJacobi.calls k a0_0 _ _ l0_1 _ _ l0_2 true _ ?side1 ?side2 ?side3 ?side4 A3.out).mono ?_); (case side1 => exact uC ((Kd.C_below HR0_1.out HB.out))); (case side2 => exact HC0_1.out); (case side3 => exact uC ((Kd.C_below HR0_2.out HB.out))); (case side4 => exact HC0_2.out); rintro e w11 ⟨rfl, hb⟩; refine ⟨_, rfl, ?_⟩; replace BK174 := xB BK174 hb; replace HB := xH HB hb; (try clear hb); (try clear hb2); (try clear hk); (try clear hi)))
   go_ret
   exact ⟨by first | rfl | (simp [errW_none, errW_some] <;> rfl) | (simp [*, errW_none, errW_some] <;> rfl), uH HB.out⟩
 ·replace c4 := Bool.eq_false_iff.mpr c4
  subst c4
  have H1 : (some 1) = some r := by rw [if_neg (show ¬ (false = true) by decide)] at H; exact H
  clear H
  have H := H1
  clear H1
  obtain rfl := Option.some.inj H
  go_enter Try.func38, Try.ntmps38
  go_wp2_with (first | ((with_reducible refine gate_dst (N := 2) rfl ?_); refine bx 2 #[.int .i64 a0_0, .slice A0_1 l0_1.length c0_1, .slice A0_2 l0_2.length c0_2] 29 ?_; intro gb174 hg w12 hbox hb; have BK174 := zA (hbox); have GW174 := gq HB hg; have GE174 := gq HB hg; replace HB := xH HB hb; have := geI GE174; clear hb hbox hg; have hcz13_0 := bc BK174 0; have hcz13_1 := bc BK174 1; have hcz13_2 := bc BK174 2; have hfz13_0 := bf BK174 0; have hfz13_1 := bf BK174 1; have hfz13_2 := bf BK174 2) | ((with_reducible refine gate_callee (f := 63) rfl ?_); refine gL (some 7) Try.func63 #[.agg #[.int .i64 a0_0, .slice A0_1 l0_1.length c0_1, .slice A0_2 l0_2.length c0_2]] ?_; (with_reducible refine (impl_IsJacobi.calls k a0_0 _ _ l0_1 _ _ l0_2 false _ ?side1 ?side2 ?side3 ?side4 A3.out).mono ?_); (case side1 => exact uC ((Kd.C_below HR0_1.out HB.out))); (case side2 => exact HC0_1.out); (case side3 => exact uC ((Kd.C_below HR0_2.out HB.out))); (case side4 => exact HC0_2.out); rintro e w14 ⟨rfl, hb⟩; refine ⟨_, rfl, ?_⟩; replace BK174 := xB BK174 hb; replace HB := xH HB hb; (try clear hb); (try clear hb2); (try clear hk); (try clear hi)))
  go_ret
  exact ⟨by first | rfl | (simp [errW_none, errW_some] <;> rfl) | (simp [*, errW_none, errW_some] <;> rfl), uH HB.out⟩
/- laws.markInt64SS, walked by hand: the numbers of the rows of a row of rows of one's own are set, and nothing else is written. -/
open Go Go.RowKit Go.Proofs.YtjdannndpfkadaaW.PrintWords Go.Proofs.YtjdannndpfkadaaW.PrintLast Go.Proofs.YtjdannndpfkadaaW.PrintMore
def laws_markInt64SS.l0 : Nat → List (List Int) → Int → Int → Option (Int × List (List Int))
 | 0, _, _, _ => none
 | k + 1, x0, x1, x5 => if x5 < (x0.length : Int) then (if 0 ≤ x5 then ((laws_markInt64S.f k (rd_L1 x0 x5) x1).bind fun bt => (laws_markInt64SS.l0 k (x0.set (x5 : Int).toNat bt.2) bt.1 (wrap64 (x5 + 1)))) else (none)) else (some (x1, x0))
def laws_markInt64SS.f (k : Nat) (l0 : List (List Int)) (a1 : Int) : Option (Int × List (List Int)) := laws_markInt64SS.l0 k l0 a1 0
theorem laws_markInt64SS.mono_l : ∀ k, (∀ y0 y1 y2, LeO (laws_markInt64SS.l0 k y0 y1 y2) (laws_markInt64SS.l0 (k + 1) y0 y1 y2))
 | 0 => fun _ _ _ r h => by simp [laws_markInt64SS.l0] at h
 | k + 1 => by
  have ih0 := laws_markInt64SS.mono_l k
  intro y0 y1 y2
  unfold laws_markInt64SS.l0
  repeat' first
   | (with_reducible exact ih0 _ _ _)
   | (with_reducible exact laws_markInt64S.mono _ _ _)
   | (with_reducible exact LeO.refl _)
   | (with_reducible exact LeO.none _)
   | (with_reducible refine LeO.ite ?_ ?_)
   | (with_reducible refine LeO.bind ?_ (fun _ => ?_))
   | exact ih0 _ _ _
   | exact laws_markInt64S.mono _ _ _
theorem laws_markInt64SS.mono : ∀ a0 a1 k, LeO (laws_markInt64SS.f k a0 a1) (laws_markInt64SS.f (k + 1) a0 a1) := fun a0 a1 k => laws_markInt64SS.mono_l k a0 a1 0

/-- Two kinds of what is kept, one behind the other. -/
theorem kept_of {w W W1 : World} {S S' : Nat → Prop} (h : Kept w W S) (h1 : Kept W W1 S') (hs : ∀ i, i < w.heap.size → S' i → S i) : Kept w W1 S :=
  ⟨Nat.le_trans h.1 h1.1, fun i hi hn => (h1.2 i (Nat.lt_of_lt_of_le hi h.1) (fun h2 => hn (hs i hi h2))).trans (h.2 i hi hn)⟩

/-- One round: the row at place i is written. -/
theorem markss_row {w0 W : World} {P : Nat → Prop} {g n cap : Nat} {xs : List (List Int)} (h : Kd.S (Kd.slice 2 (Kd.int .i64)) 22 W w0.heap.size P (.slice (some ⟨g, 0, none⟩) n cap) xs) (i : Int) (h0 : 0 ≤ i) (h1 : i < n) :
    ∃ (oki : Nat → Prop) (v : Value), Kd.R (Kd.int .i64) 2 W w0.heap.size oki v (rd_L1 xs i) ∧ W.cell? ⟨g, i.toNat, none⟩ = some v ∧ (∀ k, oki k → P k) ∧
      ∀ {W1 : World} {l : List Int} {ok' : Nat → Prop}, Kept W W1 oki → Kd.R (Kd.int .i64) 2 W1 w0.heap.size ok' v l → Kd.S (Kd.slice 2 (Kd.int .i64)) 22 W1 w0.heap.size P (.slice (some ⟨g, 0, none⟩) n cap) (xs.set i.toNat l) := by
  obtain ⟨oki, c, hcl, ⟨v, rfl, hR⟩, hcc, hoki, hH⟩ := Kd.S_lend h ([] : List Int) i h0 h1
  refine ⟨oki, v, hR, ?_, fun k hk => (hoki k hk).1, fun hkp h2 => ?_⟩
  · have := hcc 0 v rfl
    simpa [Kd.slice] using this
  · refine Kd.H_back (Kd.H_step hH (fun k _ hn hlt => hkp.2 k hlt hn)) ⟨v, rfl, Kd.R_tight rfl h2⟩ (fun k hk => hR.1 k hk.symm)
set_option maxHeartbeats 4000000 in
set_option maxRecDepth 100000 in
theorem laws_markInt64SS.calls (k : Nat) (P0_ : Nat → Prop) (u9000_ : Value) (l0 : List (List Int)) (a1 : Int) (r1 : Int) (r2 : List (List Int)) (w0 w : World) (hB : Below w0.heap.size w0 w) (ho0 : Kd.S (Kd.slice 2 (Kd.int .i64)) 22 w w0.heap.size P0_ u9000_ l0) (h : laws_markInt64SS.f k l0 a1 = some (r1, r2)) :
    Calls Try.prog 14 #[u9000_, .int .i64 a1] w fun e w' => e = .returned (.int .i64 r1) ∧ Kd.S (Kd.slice 2 (Kd.int .i64)) 22 w' w0.heap.size P0_ u9000_ r2 ∧ Below w0.heap.size w0 w' ∧ Kept w w' (fun k_ => P0_ k_) := by
  obtain ⟨A, n, c, rfl⟩ : ∃ A n c, u9000_ = .slice A n c := by
    obtain ⟨A, c, rfl⟩ := Kd.S_slice ho0
    exact ⟨A, _, c, rfl⟩
  have HO := zA ho0
  have HBB := zA hB
  clear hB
  have HK : Aside0 (Kept w w P0_) := ⟨⟨Nat.le_refl _, fun _ _ _ => rfl⟩⟩
  have H : laws_markInt64SS.l0 k l0 a1 0 = some (r1, r2) := h
  clear h
  have H' := zA H
  clear H ho0
  go_enter Try.func14, Try.ntmps14
  go_wp2
  go_loopg [1, 5] k (fun kq v1 v5 wc => ∃ (x0 : List (List Int)) (x1 : Int) (x5 : Int), v1 = .int .i64 x1 ∧ v5 = .int .i64 x5 ∧ Aside0 (laws_markInt64SS.l0 kq x0 x1 x5 = some (r1, r2)) ∧ Aside0 (kq ≤ k) ∧ Aside0 (Kd.S (Kd.slice 2 (Kd.int .i64)) 22 wc w0.heap.size P0_ (.slice A n c) x0) ∧ Aside0 (Below w0.heap.size w0 wc) ∧ Aside0 (Kept w wc P0_))
  case atStart => exact ⟨l0, a1, 0, by first | rfl | (simp; done), by first | rfl | (simp; done), H', ⟨Nat.le_refl _⟩, HO, HBB, HK⟩
  case round =>
    clear H' HO HBB HK
    obtain ⟨x0, x1, x5, rfl, rfl, HA, HK1, HO, HBB, HK⟩ := hrel
    cases gk with
    | zero => exact absurd HA.out (by simp [laws_markInt64SS.l0])
    | succ k1 =>
      have H := HA.out
      clear HA
      simp only [laws_markInt64SS.l0] at H
      have hn := zA (Kd.S_reads' HO.out).1
      by_cases c3 : x5 < (x0.length : Int)
      · rw [if_pos c3] at H
        by_cases c4 : 0 ≤ x5
        · rw [if_pos c4] at H
          obtain ⟨⟨t1, t2⟩, A50, H⟩ := Option.bind_eq_some_iff.mp H
          have A5 := zA A50
          have H' := zA H
          clear A50 H
          have c5 : x5 < (n : Int) := by rw [hn.out]; exact c3
          have c5b : decide (x5 < (n : Int)) = true := decide_eq_true c5
          obtain ⟨ad, rfl⟩ : ∃ ad, A = some ad := by
            obtain ⟨ad, _, _, h2, _⟩ := at_L1 (Kd.S_reads' HO.out).2.2 x5 c4 c3
            exact ⟨ad, h2⟩
          obtain ⟨g, rfl⟩ := Kd.R_head (Kd.S_R HO.out)
          obtain ⟨oki, v, hR, hcell, hoki, hback⟩ := markss_row HO.out x5 c4 c5
          have HR := zA hR
          have HB2 := zA @hback
          have HOKI := zA hoki
          clear hR hback hoki c3
          have q4 := eq_true c4
          have q5 := eq_true c5
          clear c4 c5
          go_wp2_with (first | ((with_reducible refine gate_callee (f := 23) rfl ?_); refine goesL_ (some 17) rfl rfl Try.func23 (by kernel_rfl) rfl #[v, .int .i64 x1] rfl (by (try simp only [la, lb, lc]); first | done | rfl | (simp only [ld, le]; rfl)) ?_; (with_reducible refine (laws_markInt64S.calls k1 oki v (rd_L1 x0 x5) x1 t1 t2 w0 _ ?side1 ?side2 A5.out).mono ?_); (case side1 => exact HBB.out); (case side2 => exact HR.out); rintro e w1 ⟨rfl, hR1, hb1, hk1⟩; refine ⟨_, rfl, ?_⟩; have HO1 := zA (HB2.out hk1 hR1); have HK2 := zA (kept_of HK.out hk1 (fun i _ hs => HOKI.out i hs)); have HBB1 := zA hb1; clear hR1 hb1 hk1 HO HK HBB HB2 HOKI HR hcell))
          go_roundg k1
          case measure => have := HK1.out; omega
          case rel => exact ⟨_, t1, wrap64 (x5 + 1), by first | rfl | (simp; done) | (simp [*]; done), by first | rfl | (simp; done) | (simp [*]; done), H', ⟨by have := HK1.out; omega⟩, HO1, HBB1, HK2⟩
        · rw [if_neg c4] at H
          exact absurd H (by simp)
      · rw [if_neg c3] at H
        have c3b0 : decide (x5 < (n : Int)) = false := by rw [hn.out]; exact decide_eq_false c3
        have e := Option.some.inj H
        clear H c3
        obtain ⟨rfl, rfl⟩ := Prod.mk.injEq _ _ _ _ ▸ e
        go_wp2
        go_ret
        exact ⟨by first | rfl | (simp; done) | (simp [*]; done), HO.out, HBB.out, HK.out⟩
/- What was made before a call is elder than what the call made: told by one number. -/
section
variable {α β : Type} {d : Kd α} {d' : Kd β} {e e' : Nat} {w1 W : World} {base N : Nat} {ok ok' : Nat → Prop} {u v : Value} {xs : List α} {ys : List β}
theorem sizeN (_h : Kd.S d e w1 W.heap.size ok v xs) : ∃ N, Aside0 (N = W.heap.size) := ⟨_, ⟨rfl⟩⟩
theorem oldN (hN : Aside0 (N = W.heap.size)) (h : Kd.S d e W base ok u xs) (hb : Below W.heap.size W w1) : Kd.S d e w1 base (fun k => ok k ∧ k < N) u xs := by
  rw [hN.out]
  exact Kd.S_old h hb
theorem newN (hN : Aside0 (N = W.heap.size)) (h : Kd.S d e w1 W.heap.size ok v xs) : Kd.S d e w1 W.heap.size (fun k => ok k ∧ N ≤ k) v xs := by
  rw [hN.out]
  exact Kd.S_mono (Kd.S_bound h) (fun _ hk => ⟨hk.1, hk.2.1⟩)
end
/- Plain lemmas: rounds (Ev), wrapped sums, rests modulo p, lists read and written at an index. No program is in sight. -/
section
variable {α β : Type}
theorem Ev.pos {c : Prop} [Decidable c] {X Y : Nat → Option α} {r : α} (h : c) (e : Ev X r) : Ev (fun k => if c then X k else Y k) r := by
  simpa only [if_pos h] using e
theorem Ev.neg {c : Prop} [Decidable c] {X Y : Nat → Option α} {r : α} (h : ¬ c) (e : Ev Y r) : Ev (fun k => if c then X k else Y k) r := by
  simpa only [if_neg h] using e
theorem Ev.eq {x : Option α} {r : α} (h : x = some r) : Ev (fun _ => x) r := ⟨0, fun _ _ => h⟩
theorem Ev.some' {r s : α} (h : r = s) : Ev (fun _ => some r) s := ⟨0, fun _ _ => by rw [h]⟩
theorem Ev.bindE {x : Option α} {f : Nat → α → Option β} {a : α} {r : β} (h : x = some a) (e : Ev (fun n => f n a) r) : Ev (fun n => x.bind (f n)) r := by
  subst h; simpa using e
theorem Ev.cast {g : Nat → Option α} {r s : α} (h : Ev g r) (e : r = s) : Ev g s := e ▸ h
theorem Ev.fn {g : Nat → Option α} {r s : α} (h : Ev g r) (h' : Ev g s) : r = s := by
  obtain ⟨K, h⟩ := h
  obtain ⟨K', h'⟩ := h'
  have a := h (max K K') (by omega)
  have b := h' (max K K') (by omega)
  rw [a] at b
  exact Option.some.inj b
end

theorem ne_self {α : Type} [BEq α] [LawfulBEq α] (a : α) : ¬ ((a != a) = true) := by simp

theorem wrap_id {x : Int} (h0 : -9223372036854775808 ≤ x) (h1 : x < 9223372036854775808) : wrap64 x = x := by unfold wrap64; omega
theorem wsucc {i n : Nat} (h : i < n) (hn : n < 4611686018427387904) : wrap64 ((i : Int) + 1) = ((i + 1 : Nat) : Int) := by unfold wrap64; omega
theorem wadd {i j n : Nat} (h : i + j < n) (hn : n < 4611686018427387904) : wrap64 ((i : Int) + (j : Int)) = ((i + j : Nat) : Int) := by unfold wrap64; omega
theorem wpred {i : Nat} (h : 0 < i) (hn : i < 4611686018427387904) : wrap64 ((i : Int) - 1) = ((i - 1 : Nat) : Int) := by unfold wrap64; omega

theorem rd_nat (l : List Int) (i : Nat) : rd l (i : Int) = l.getD i 0 := by simp [rd]
theorem rdL_nat (l : List (List Int)) (i : Nat) : rd_L1 l (i : Int) = l.getD i [] := by simp [rd_L1]
theorem getD_mem {α : Type} {l : List α} {i : Nat} {d : α} (h : i < l.length) : l.getD i d ∈ l := by
  simp only [List.getD_eq_getElem?_getD, List.getElem?_eq_getElem h, Option.getD_some]; exact List.getElem_mem h
theorem toNat_nat (i : Nat) : ((i : Int)).toNat = i := rfl

/-- A length that is small. -/
abbrev Sm (n : Nat) : Prop := n ≤ 1048576

/-- Numbers modulo p. -/
def Nm (p : Int) (l : List Int) : Prop := ∀ x ∈ l, 0 ≤ x ∧ x < p
theorem Nm.nil (p : Int) : Nm p [] := fun x h => by cases h
theorem Nm.cons {p x : Int} {l : List Int} (h0 : 0 ≤ x) (h1 : x < p) (h : Nm p l) : Nm p (x :: l) := fun y hy => by
  rcases List.mem_cons.1 hy with rfl | hy
  · exact ⟨h0, h1⟩
  · exact h y hy
theorem Nm.append {p : Int} {l m : List Int} (h : Nm p l) (h' : Nm p m) : Nm p (l ++ m) := fun y hy => by
  rcases List.mem_append.1 hy with hy | hy
  · exact h y hy
  · exact h' y hy
theorem Nm.get {p : Int} {l : List Int} (h : Nm p l) {i : Nat} (hi : i < l.length) : 0 ≤ l.getD i 0 ∧ l.getD i 0 < p := h _ (getD_mem hi)
theorem Nm.getp {p : Int} {l : List Int} (h : Nm p l) (hp : 0 < p) (i : Nat) : 0 ≤ l.getD i 0 ∧ l.getD i 0 < p := by
  by_cases hi : i < l.length
  · exact h.get hi
  · rw [List.getD_eq_getElem?_getD, List.getElem?_eq_none (by omega)]; exact ⟨Int.le_refl _, hp⟩
theorem Nm.take {p : Int} {l : List Int} (h : Nm p l) (n : Nat) : Nm p (l.take n) := fun x hx => h x (List.mem_of_mem_take hx)
theorem Nm.drop {p : Int} {l : List Int} (h : Nm p l) (n : Nat) : Nm p (l.drop n) := fun x hx => h x (List.mem_of_mem_drop hx)
theorem Nm.set {p x : Int} {l : List Int} (h : Nm p l) (h0 : 0 ≤ x) (h1 : x < p) (i : Nat) : Nm p (l.set i x) := fun y hy => by
  rcases List.mem_or_eq_of_mem_set hy with hy | rfl
  · exact h y hy
  · exact ⟨h0, h1⟩
theorem Nm.zeros {p : Int} (hp : 0 < p) (n : Nat) : Nm p (List.replicate n 0) := fun x hx => by
  rw [(List.mem_replicate.1 hx).2]; exact ⟨Int.le_refl _, hp⟩
instance (p : Int) (l : List Int) : Decidable (Nm p l) := by unfold Nm; infer_instance

theorem wf64 {x : Int} (h : (Lit.int .i64 x).wf = true) : -9223372036854775808 ≤ x ∧ x ≤ 9223372036854775807 := by
  have h2 : IntKind.i64.min ≤ x ∧ x ≤ 9223372036854775807 := by simpa [Lit.wf] using h
  exact h2
/-- A modulus that the program may have (in its range; a prime or not). -/
structure Pm (p : Int) : Prop where
  two : 2 ≤ p
  top : p ≤ 10007
theorem Pm.pos {p : Int} (h : Pm p) : 0 < p := by have := h.two; omega
theorem Pm.ne {p : Int} (h : Pm p) : p ≠ 0 := by have := h.two; omega

theorem mulB {a b m n : Int} (ha : 0 ≤ a) (ha' : a ≤ m) (hb : 0 ≤ b) (hb' : b ≤ n) : 0 ≤ a * b ∧ a * b ≤ m * n :=
  ⟨Int.mul_nonneg ha hb, Int.mul_le_mul ha' hb' hb (by omega)⟩
/-- A product of two numbers modulo p. -/
theorem mulP {p a b : Int} (hp : Pm p) (ha : 0 ≤ a) (ha' : a < p) (hb : 0 ≤ b) (hb' : b < p) : 0 ≤ a * b ∧ a * b ≤ 100140049 := by
  have h1 := hp.top
  have h := mulB (m := 10007) (n := 10007) ha (by omega) hb (by omega)
  exact ⟨h.1, by omega⟩
theorem tmod_pos {a b : Int} (h : 0 ≤ a) : Int.tmod a b = a % b := Int.tmod_eq_emod_of_nonneg h
theorem emodB {p : Int} (hp : 0 < p) (x : Int) : 0 ≤ x % p ∧ x % p < p := ⟨Int.emod_nonneg _ (by omega), Int.emod_lt_of_pos _ hp⟩
/-- Go's '(x % p + p) % p' is the rest of x. -/
theorem go_mod {p x : Int} (hp : Pm p) : Int.tmod (wrap64 (Int.tmod x p + p)) p = x % p := by
  have h2 := hp.two
  have ht := hp.top
  have h := Int.tmod_eq_emod (a := x) (b := p)
  have hb := emodB hp.pos x
  have hn : ((p.natAbs : Nat) : Int) = p := by omega
  split at h
  · rw [h, Int.natCast_zero, wrap_id (by omega) (by omega), tmod_pos (by omega), show x % p - 0 + p = x % p + p from by omega, Int.add_emod_right, Int.emod_emod]
  · rw [h, hn, wrap_id (by omega) (by omega), tmod_pos (by omega), show x % p - p + p = x % p from by omega, Int.emod_emod]

/-- A list without noughts at its end. -/
def trim (l : List Int) : List Int := (l.reverse.dropWhile (· == 0)).reverse
theorem trim_nil : trim [] = [] := rfl
theorem trim_snoc_zero (l : List Int) : trim (l ++ [0]) = trim l := by simp [trim]
theorem trim_snoc (l : List Int) {x : Int} (h : x ≠ 0) : trim (l ++ [x]) = l ++ [x] := by simp [trim, h]
theorem snocInd {α : Type} {P : List α → Prop} (h0 : P []) (h1 : ∀ l x, P l → P (l ++ [x])) (l : List α) : P l := by
  have h : ∀ l : List α, P l.reverse := by
    intro l
    induction l with
    | nil => exact h0
    | cons x l ih => rw [List.reverse_cons]; exact h1 _ _ ih
  simpa using h l.reverse
theorem trim_sub (l : List Int) : ∃ n, l = trim l ++ List.replicate n 0 := by
  induction l using snocInd with
  | h0 => exact ⟨0, rfl⟩
  | h1 l x ih =>
    by_cases h : x = 0
    · subst h
      obtain ⟨n, hn⟩ := ih
      refine ⟨n + 1, ?_⟩
      rw [trim_snoc_zero, List.replicate_succ', ← List.append_assoc, ← hn]
    · exact ⟨0, by rw [trim_snoc l h]; simp⟩
/- Copies of lists; no condition. -/
theorem Sm0 : Sm ([] : List Int).length := by simp [Sm]
theorem Sm.take {l : List Int} (h : Sm l.length) (n : Nat) : Sm (l.take n).length := by unfold Sm at h ⊢; rw [List.length_take]; omega
theorem Sm.drop {l : List Int} (h : Sm l.length) (n : Nat) : Sm (l.drop n).length := by unfold Sm at h ⊢; rw [List.length_drop]; omega
theorem own_eq (l : List Int) (hl : Sm l.length) : spec_l01Own.f l = some l := by
  unfold spec_l01Own.f
  simp only [Option.bind_some, List.length_nil, List.nil_append]
  rw [if_pos (by unfold Sm at hl; omega)]
/- What the laws' own helpers compute: copies, comparisons, marks. -/
theorem set_take_step (l : List Int) (i : Nat) (h : i < l.length) : (l.take i ++ List.replicate (l.length - i) 0).set i (l.getD i 0) = l.take (i + 1) ++ List.replicate (l.length - (i + 1)) 0 := by
  obtain ⟨m, hm⟩ : ∃ m, l.length - i = m + 1 := ⟨l.length - i - 1, by omega⟩
  rw [List.set_append_right (h := by simp; omega)]
  rw [hm, List.replicate_succ]
  have e : i - (l.take i).length = 0 := by simp; omega
  rw [e, List.set_cons_zero, List.take_succ_eq_append_getElem h]
  have e2 : l.length - (i + 1) = m := by omega
  rw [e2, List.append_assoc]
  simp [List.getD, h]

theorem toInt64S_l0 (l : List Int) (hl : Sm l.length) (d : Nat) : ∀ i, i + d = l.length → Ev (fun k => laws_toInt64S.l0 k l (l.take i ++ List.replicate (l.length - i) 0) (i : Int)) l := by
  induction d with
  | zero =>
    intro i hi
    refine Ev.step (fun k => by rw [laws_toInt64S.l0]) ?_
    refine Ev.neg (by omega) (Ev.some' ?_)
    have e : l.length - i = 0 := by omega
    rw [e, List.take_of_length_le (by omega)]; simp
  | succ d ih =>
    intro i hi
    have hlen : (l.take i ++ List.replicate (l.length - i) (0 : Int)).length = l.length := by simp; omega
    refine Ev.step (fun k => by rw [laws_toInt64S.l0]) ?_
    refine Ev.pos (by omega) (Ev.pos (by omega) (Ev.pos (by rw [hlen]; omega) ?_))
    rw [toNat_nat, rd_nat, set_take_step l i (by omega), wsucc (i := i) (n := l.length) (by omega) (by unfold Sm at hl; omega)]
    exact ih (i + 1) (by omega)
theorem toInt64S_ev (l : List Int) (hl : Sm l.length) : Ev (fun k => laws_toInt64S.f k l) l := by
  unfold laws_toInt64S.f
  refine Ev.pos (by omega) (Ev.pos (by unfold Sm at hl; rw [toNat_nat]; omega) ?_)
  have h := toInt64S_l0 l hl l.length 0 (by omega)
  simpa using h

theorem eqInt64S_l0 (l : List Int) (hl : Sm l.length) (d : Nat) : ∀ i, i + d = l.length → Ev (fun k => laws_eqInt64S.l0 k l l (i : Int)) true := by
  induction d with
  | zero =>
    intro i hi
    refine Ev.step (fun k => by rw [laws_eqInt64S.l0]) ?_
    exact Ev.neg (by omega) (Ev.now _)
  | succ d ih =>
    intro i hi
    refine Ev.step (fun k => by rw [laws_eqInt64S.l0]) ?_
    refine Ev.pos (by omega) (Ev.pos (by omega) (Ev.pos (by omega) (Ev.pos rfl ?_)))
    rw [wsucc (i := i) (n := l.length) (by omega) (by unfold Sm at hl; omega)]
    exact ih (i + 1) (by omega)
theorem eqInt64S_ev (l : List Int) (hl : Sm l.length) : Ev (fun k => laws_eqInt64S.f k l l) true := by
  unfold laws_eqInt64S.f
  exact Ev.pos rfl (eqInt64S_l0 l hl l.length 0 (by omega))

/-- The marks m, m + 1, .. -/
def marks (m n : Nat) : List Int := (List.range n).map fun i => ((m + i : Nat) : Int)
theorem marks_length (m n : Nat) : (marks m n).length = n := by simp [marks]
theorem marks_get (m n i : Nat) (h : i < n) : (marks m n).getD i 0 = ((m + i : Nat) : Int) := by
  simp [marks, List.getD, h]

theorem markInt64S_l0 (l : List Int) (m : Nat) (hl : Sm l.length) (hm : m ≤ 4611686018427387904 - 4194304) (d : Nat) : ∀ i, i + d = l.length →
    Ev (fun k => laws_markInt64S.l0 k (marks m i ++ l.drop i) ((m + i : Nat) : Int) (i : Int)) (((m + l.length : Nat) : Int), marks m l.length) := by
  induction d with
  | zero =>
    intro i hi
    have hlen : (marks m i ++ l.drop i).length = l.length := by simp [marks_length]; omega
    refine Ev.step (fun k => by rw [laws_markInt64S.l0]) ?_
    refine Ev.neg (by rw [hlen]; omega) (Ev.some' ?_)
    have e : i = l.length := by omega
    subst e
    simp
  | succ d ih =>
    intro i hi
    have hlen : (marks m i ++ l.drop i).length = l.length := by simp [marks_length]; omega
    refine Ev.step (fun k => by rw [laws_markInt64S.l0]) ?_
    refine Ev.pos (by rw [hlen]; omega) (Ev.pos (by omega) ?_)
    have e : (marks m i ++ l.drop i).set ((i : Int)).toNat ((m + i : Nat) : Int) = marks m (i + 1) ++ l.drop (i + 1) := by
      rw [toNat_nat, List.set_append_right (h := by simp [marks_length])]
      rw [marks_length, Nat.sub_self, List.drop_eq_getElem_cons (by omega), List.set_cons_zero]
      unfold marks
      rw [List.range_succ, List.map_append, List.append_assoc]
      rfl
    rw [e, wsucc (i := i) (n := l.length) (by omega) (by unfold Sm at hl; omega), wsucc (i := m + i) (n := m + i + 1) (by omega) (by unfold Sm at hl; omega)]
    exact ih (i + 1) (by omega)
theorem markInt64S_ev (l : List Int) (m : Nat) (hl : Sm l.length) (hm : m ≤ 4611686018427387904 - 4194304) :
    Ev (fun k => laws_markInt64S.f k l (m : Int)) (((m + l.length : Nat) : Int), marks m l.length) := by
  unfold laws_markInt64S.f
  have h := markInt64S_l0 l m hl hm l.length 0 (by omega)
  simpa [marks] using h

theorem heldInt64S_l0 (n m : Nat) (hl : Sm n) (hm : m ≤ 4611686018427387904 - 4194304) (d : Nat) : ∀ i, i + d = n →
    Ev (fun k => laws_heldInt64S.l0 k (marks m n) ((m + i : Nat) : Int) (i : Int)) ((m + n : Nat) : Int) := by
  induction d with
  | zero =>
    intro i hi
    refine Ev.step (fun k => by rw [laws_heldInt64S.l0]) ?_
    refine Ev.neg (by rw [marks_length]; omega) (Ev.some' ?_)
    have e : i = n := by omega
    rw [e]
  | succ d ih =>
    intro i hi
    refine Ev.step (fun k => by rw [laws_heldInt64S.l0]) ?_
    refine Ev.pos (by rw [marks_length]; omega) (Ev.pos (by omega) (Ev.pos (by rw [rd_nat, marks_get m n i (by omega)]) ?_))
    rw [wsucc (i := i) (n := n) (by omega) (by unfold Sm at hl; omega), wsucc (i := m + i) (n := m + i + 1) (by omega) (by unfold Sm at hl; omega)]
    exact ih (i + 1) (by omega)
theorem heldInt64S_ev (n m : Nat) (hl : Sm n) (hm : m ≤ 4611686018427387904 - 4194304) : Ev (fun k => laws_heldInt64S.f k (marks m n) (m : Int)) ((m + n : Nat) : Int) := by
  unfold laws_heldInt64S.f
  exact heldInt64S_l0 n m hl hm n 0 (by omega)

theorem szInt64S_yes (l : List Int) (a : Nat) (ha : a ≤ 1048576) (h : l.length ≤ a) : laws_szInt64S.f l (a : Int) = some ((a - l.length : Nat) : Int) := by
  unfold laws_szInt64S.f
  rw [wrap_id (by omega) (by omega), if_neg (by omega)]
  congr 1
  omega
theorem szInt64S_no (l : List Int) (a : Nat) (hl : l.length ≤ 9223372036854775807) (ha : a ≤ 1048576) (h : a < l.length) : laws_szInt64S.f l (a : Int) = some (-1) := by
  unfold laws_szInt64S.f
  rw [wrap_id (by omega) (by omega), if_pos (by omega)]
/- The laws' helpers at Jacobi: copies, comparisons, marks. -/
theorem toJacobi_ev (p : Int) (l0 l1 : List Int) (h0 : Sm l0.length) (h1 : Sm l1.length) : Ev (fun k => laws_toJacobi.f k p l0 l1) (p, l0, l1) := by
  unfold laws_toJacobi.f
  exact Ev.bind (toInt64S_ev _ h0) (Ev.bind (toInt64S_ev _ h1) (Ev.now _))
theorem eqJacobi_ev (p : Int) (l0 l1 : List Int) (h0 : Sm l0.length) (h1 : Sm l1.length) : Ev (fun k => laws_eqJacobi.f k p l0 l1 p l0 l1) true := by
  unfold laws_eqJacobi.f
  exact Ev.pos rfl (Ev.bind (eqInt64S_ev _ h0) (Ev.pos rfl (Ev.bind (eqInt64S_ev _ h1) (Ev.pos rfl (Ev.now _)))))
theorem markJacobi_ev (p : Int) (l0 l1 : List Int) (h0 : Sm l0.length) (h1 : Sm l1.length) (m : Nat) (hm : m ≤ 4194304) : Ev (fun k => laws_markJacobi.f k p l0 l1 (m : Int)) (((m + l0.length + l1.length : Nat) : Int), marks (m) l0.length, marks (m + l0.length) l1.length) := by
  unfold laws_markJacobi.f
  unfold Sm at h0 h1
  exact Ev.bind (markInt64S_ev _ _ h0 (by omega)) (Ev.bind (markInt64S_ev _ _ h1 (by omega)) (Ev.now _))
theorem szJacobi_yes (p : Int) (l0 l1 : List Int) (a : Nat) (ha : a ≤ 1048576) (h : l0.length + l1.length ≤ a) : laws_szJacobi.f p l0 l1 (a : Int) = some ((a - (l0.length + l1.length) : Nat) : Int) := by
  unfold laws_szJacobi.f
  rw [szInt64S_yes l0 (a) (by omega) (by omega), Option.bind_some, if_neg (by omega)]
  rw [szInt64S_yes l1 (a - l0.length) (by omega) (by omega), Option.bind_some, if_neg (by omega)]
  congr 2
  omega
theorem szJacobi_no (p : Int) (l0 l1 : List Int) (g0 : l0.length ≤ 9223372036854775807) (g1 : l1.length ≤ 9223372036854775807) (a : Nat) (ha : a ≤ 1048576) (h : a < l0.length + l1.length) : laws_szJacobi.f p l0 l1 (a : Int) = some (-1) := by
  unfold laws_szJacobi.f
  by_cases e0 : a < l0.length
  · rw [szInt64S_no l0 (a) g0 (by omega) e0, Option.bind_some, if_pos (by omega)]
  · rw [szInt64S_yes l0 (a) (by omega) (by omega), Option.bind_some, if_neg (by omega)]
    rw [szInt64S_no l1 (a - l0.length) g1 (by omega) (by omega), Option.bind_some, if_pos (by omega)]
/- The laws' helpers at rows of rows: comparisons, marks. -/
/-- Rows of a small number of rows, each small. -/
def SmR (l : List (List Int)) : Prop := Sm l.length ∧ ∀ r ∈ l, Sm r.length
def total : List (List Int) → Nat
  | [] => 0
  | r :: l => r.length + total l
def marksR (m : Nat) : List (List Int) → List (List Int)
  | [] => []
  | r :: l => marks m r.length :: marksR (m + r.length) l
theorem marksR_length (l : List (List Int)) : ∀ m, (marksR m l).length = l.length := by
  induction l with
  | nil => exact fun _ => rfl
  | cons r l ih => exact fun m => by simp only [marksR, List.length_cons, ih]
theorem total_le (l : List (List Int)) (h : ∀ r ∈ l, Sm r.length) : total l ≤ l.length * 1048576 := by
  induction l with
  | nil => simp [total]
  | cons r l ih =>
    have h1 := h r (List.mem_cons_self ..)
    have h2 := ih (fun x hx => h x (List.mem_cons_of_mem _ hx))
    unfold Sm at h1
    simp only [total, List.length_cons, Nat.succ_mul]
    omega
theorem getD_mid (D l : List (List Int)) (r : List Int) : (D ++ r :: l).getD D.length [] = r := by simp [List.getD]
theorem set_mid (D l : List (List Int)) (r x : List Int) : (D ++ r :: l).set D.length x = (D ++ [x]) ++ l := by simp

theorem eqInt64SS_l0 (l : List (List Int)) (h : SmR l) (d : Nat) : ∀ i, i + d = l.length → Ev (fun k => laws_eqInt64SS.l0 k l l (i : Int)) true := by
  obtain ⟨h1, h2⟩ := h
  unfold Sm at h1
  induction d with
  | zero =>
    intro i hi
    refine Ev.step (fun k => by rw [laws_eqInt64SS.l0]) ?_
    exact Ev.neg (by omega) (Ev.now _)
  | succ d ih =>
    intro i hi
    refine Ev.step (fun k => by rw [laws_eqInt64SS.l0]) ?_
    refine Ev.pos (by omega) (Ev.pos (by omega) (Ev.pos (by omega) ?_))
    rw [rdL_nat, wsucc (i := i) (n := l.length) (by omega) (by omega)]
    exact Ev.bind (eqInt64S_ev _ (h2 _ (getD_mem (by omega)))) (Ev.pos rfl (ih (i + 1) (by omega)))
theorem eqInt64SS_ev (l : List (List Int)) (h : SmR l) : Ev (fun k => laws_eqInt64SS.f k l l) true := by
  unfold laws_eqInt64SS.f
  exact Ev.pos rfl (eqInt64SS_l0 l h l.length 0 (by omega))

theorem markInt64SS_l0 (l : List (List Int)) : ∀ (D : List (List Int)) (m : Nat), D.length + l.length ≤ 1048576 → (∀ r ∈ l, Sm r.length) → m + l.length * 1048576 ≤ 4611686018427387904 - 4194304 →
    Ev (fun k => laws_markInt64SS.l0 k (D ++ l) (m : Int) (D.length : Int)) (((m + total l : Nat) : Int), D ++ marksR m l) := by
  induction l with
  | nil =>
    intro D m _ _ _
    refine Ev.step (fun k => by rw [laws_markInt64SS.l0]) ?_
    exact Ev.neg (by simp) (Ev.now _)
  | cons r l ih =>
    intro D m hD hl hm
    have hr := hl r (List.mem_cons_self ..)
    have hr' := hr
    unfold Sm at hr'
    simp only [List.length_cons, Nat.succ_mul] at hD hm
    refine Ev.step (fun k => by rw [laws_markInt64SS.l0]) ?_
    refine Ev.pos (by simp; omega) (Ev.pos (by omega) ?_)
    rw [rdL_nat, getD_mid]
    refine Ev.bind (markInt64S_ev r m hr (by omega)) ?_
    rw [toNat_nat, set_mid, wsucc (i := D.length) (n := D.length + 1) (by omega) (by omega)]
    have h := ih (D ++ [marks m r.length]) (m + r.length) (by simp; omega) (fun x hx => hl x (List.mem_cons_of_mem _ hx)) (by omega)
    rw [List.length_append, List.length_singleton] at h
    refine Ev.cast h ?_
    simp only [total, marksR, List.append_assoc, List.singleton_append, Nat.add_assoc]
theorem markInt64SS_ev (l : List (List Int)) (h : SmR l) (m : Nat) (hm : m ≤ 4194304) :
    Ev (fun k => laws_markInt64SS.f k l (m : Int)) (((m + total l : Nat) : Int), marksR m l) := by
  unfold laws_markInt64SS.f
  obtain ⟨h1, h2⟩ := h
  unfold Sm at h1
  exact markInt64SS_l0 l [] m (by simpa using h1) h2 (by omega)

theorem heldInt64SS_l0 (l : List (List Int)) : ∀ (D : List (List Int)) (m : Nat), D.length + l.length ≤ 1048576 → (∀ r ∈ l, Sm r.length) → m + l.length * 1048576 ≤ 4611686018427387904 - 4194304 →
    Ev (fun k => laws_heldInt64SS.l0 k (D ++ marksR m l) (m : Int) (D.length : Int)) ((m + total l : Nat) : Int) := by
  induction l with
  | nil =>
    intro D m _ _ _
    refine Ev.step (fun k => by rw [laws_heldInt64SS.l0]) ?_
    exact Ev.neg (by simp [marksR]) (Ev.now _)
  | cons r l ih =>
    intro D m hD hl hm
    have hr := hl r (List.mem_cons_self ..)
    have hr' := hr
    unfold Sm at hr'
    simp only [List.length_cons, Nat.succ_mul] at hD hm
    refine Ev.step (fun k => by rw [laws_heldInt64SS.l0]) ?_
    refine Ev.pos (by rw [List.length_append, marksR_length, List.length_cons]; omega) (Ev.pos (by omega) ?_)
    rw [rdL_nat, show marksR m (r :: l) = marks m r.length :: marksR (m + r.length) l from rfl, getD_mid]
    refine Ev.bind (heldInt64S_ev _ m hr (by omega)) (Ev.neg (by omega) ?_)
    rw [wsucc (i := D.length) (n := D.length + 1) (by omega) (by omega)]
    have h := ih (D ++ [marks m r.length]) (m + r.length) (by simp; omega) (fun x hx => hl x (List.mem_cons_of_mem _ hx)) (by omega)
    rw [List.length_append, List.length_singleton, List.append_assoc, List.singleton_append] at h
    refine Ev.cast h ?_
    simp only [total, Nat.add_assoc]
theorem heldInt64SS_ev (l : List (List Int)) (h : SmR l) (m : Nat) (hm : m ≤ 4194304) : Ev (fun k => laws_heldInt64SS.f k (marksR m l) (m : Int)) ((m + total l : Nat) : Int) := by
  unfold laws_heldInt64SS.f
  obtain ⟨h1, h2⟩ := h
  unfold Sm at h1
  exact heldInt64SS_l0 l [] m (by simpa using h1) h2 (by omega)
end Go.Proofs.Ytjdannndpfkadaa.Pr
