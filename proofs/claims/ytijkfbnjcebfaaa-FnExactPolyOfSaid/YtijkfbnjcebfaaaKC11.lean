/- Texts of this session in one: what functions of the program compute, and plain facts of it, under the conditions that each theorem names. -/
import Derived.Test.YtijkfbnjcebfaaaKC01
import Derived.Test.YtijkfbnjcebfaaaKC02
namespace Go.Proofs.Ytijkfbnjcebfaaa.Pr
open Go.RowKit Go.Proofs.YtijkfbnjcebfaaaW.PrintWords Go.Proofs.YtijkfbnjcebfaaaW.PrintLast Go.Proofs.YtijkfbnjcebfaaaW.PrintMore
attribute [local go_sem] max2_int min2_int max_two min_two max_three min_three max_four min_four   -- for this text's walks alone
set_option linter.unusedVariables false
set_option linter.unusedSimpArgs false
/-! ### impl_Jacobi_field: function 64 -/
def impl_Jacobi_field.f (a0_0 : Int) (l0_1 : List Int) (l0_2 : List Int) : Option (Int) := some a0_0
set_option maxHeartbeats 8000000 in
set_option maxRecDepth 100000 in
theorem impl_Jacobi_field.calls (a0_0 : Int) (A0_1 : Option Addr) (c0_1 : Nat) (l0_1 : List Int) (A0_2 : Option Addr) (c0_2 : Nat) (l0_2 : List Int) (r : Int) (w : World) (hr0_1 : Kd.C (Kd.int .i64) w A0_1 l0_1.length l0_1) (hc0_1 : l0_1.length ≤ c0_1) (hr0_2 : Kd.C (Kd.int .i64) w A0_2 l0_2.length l0_2) (hc0_2 : l0_2.length ≤ c0_2) (h : impl_Jacobi_field.f a0_0 l0_1 l0_2 = some r) :
  Calls Try.prog 64 #[.agg #[.int .i64 a0_0, .slice A0_1 l0_1.length c0_1, .slice A0_2 l0_2.length c0_2]] w fun e w' => e = .returned (.int .i64 r) ∧ Below w.heap.size w w' := by
 have hu28 := Try.underlying28
 have HR0_1 := zA hr0_1
 have HC0_1 := zA hc0_1
 clear hr0_1 hc0_1
 have HR0_2 := zA hr0_2
 have HC0_2 := zA hc0_2
 clear hr0_2 hc0_2
 have HB := zA (Below.refl w.heap.size w)
 have H : (some a0_0) = some r := h
 clear h
 obtain rfl := Option.some.inj H
 go_enter Try.func64, Try.ntmps64
 go_wp2_with (first | ((with_reducible refine gate_dst (N := 1) rfl ?_); refine bx 1 #[.int .i64 a0_0, .slice A0_1 l0_1.length c0_1, .slice A0_2 l0_2.length c0_2] 28 ?_; intro gb198 hg w2 hbox hb; have BK198 := zA (hbox); have GW198 := gq HB hg; have GE198 := gq HB hg; replace HB := xH HB hb; have := geI GE198; clear hb hbox hg; have hcz3_0 := bc BK198 0; have hcz3_1 := bc BK198 1; have hcz3_2 := bc BK198 2; have hfz3_0 := bf BK198 0; have hfz3_1 := bf BK198 1; have hfz3_2 := bf BK198 2))
 go_ret
 exact ⟨by first | rfl | (simp [errW_none, errW_some] <;> rfl) | (simp [*, errW_none, errW_some] <;> rfl), uH HB.out⟩
/-! ### impl_Jacobi_size: function 50 -/
def impl_Jacobi_size.f (a0_0 : Int) (l0_1 : List Int) (l0_2 : List Int) : Option (Int) := (impl_length_int64.f l0_1).bind fun t197 => (some t197)
set_option maxHeartbeats 8000000 in
set_option maxRecDepth 100000 in
theorem impl_Jacobi_size.calls (a0_0 : Int) (A0_1 : Option Addr) (c0_1 : Nat) (l0_1 : List Int) (A0_2 : Option Addr) (c0_2 : Nat) (l0_2 : List Int) (r : Int) (w : World) (hr0_1 : Kd.C (Kd.int .i64) w A0_1 l0_1.length l0_1) (hc0_1 : l0_1.length ≤ c0_1) (hr0_2 : Kd.C (Kd.int .i64) w A0_2 l0_2.length l0_2) (hc0_2 : l0_2.length ≤ c0_2) (h : impl_Jacobi_size.f a0_0 l0_1 l0_2 = some r) :
  Calls Try.prog 50 #[.agg #[.int .i64 a0_0, .slice A0_1 l0_1.length c0_1, .slice A0_2 l0_2.length c0_2]] w fun e w' => e = .returned (.int .i64 r) ∧ Below w.heap.size w w' := by
 have hu28 := Try.underlying28
 have HR0_1 := zA hr0_1
 have HC0_1 := zA hc0_1
 clear hr0_1 hc0_1
 have HR0_2 := zA hr0_2
 have HC0_2 := zA hc0_2
 clear hr0_2 hc0_2
 have HB := zA (Below.refl w.heap.size w)
 have H : ((impl_length_int64.f l0_1).bind fun t197 => (some t197)) = some r := h
 clear h
 replace H := Option.bind_eq_some_iff.mp H
 obtain ⟨t197, A20, H⟩ := H
 replace H : (some t197) = some r := H
 have A2 := zA A20
 clear A20
 obtain rfl := Option.some.inj H
 go_enter Try.func50, Try.ntmps50
 go_wp2_with (first | ((with_reducible refine gate_dst (N := 1) rfl ?_); refine bx 1 #[.int .i64 a0_0, .slice A0_1 l0_1.length c0_1, .slice A0_2 l0_2.length c0_2] 28 ?_; intro gb196 hg w3 hbox hb; have BK196 := zA (hbox); have GW196 := gq HB hg; have GE196 := gq HB hg; replace HB := xH HB hb; have := geI GE196; clear hb hbox hg; have hcz4_0 := bc BK196 0; have hcz4_1 := bc BK196 1; have hcz4_2 := bc BK196 2; have hfz4_0 := bf BK196 0; have hfz4_1 := bf BK196 1; have hfz4_2 := bf BK196 2) | ((with_reducible refine gate_callee (f := 66) rfl ?_); refine gL (some 5) Try.func66 #[.slice A0_1 l0_1.length c0_1] ?_; (with_reducible refine (impl_length_int64.calls _ _ l0_1 t197 _ ?side1 ?side2 A2.out).mono ?_); (case side1 => exact uC ((Kd.C_below HR0_1.out HB.out))); (case side2 => exact HC0_1.out); rintro e w' ⟨rfl, ⟨nd, rfl⟩⟩; refine ⟨_, rfl, ?_⟩))
 go_ret
 exact ⟨by first | rfl | (simp [errW_none, errW_some] <;> rfl) | (simp [*, errW_none, errW_some] <;> rfl), uH HB.out⟩
/-! ### impl_field_isUnit: function 107 -/
def impl_field_isUnit.f (a0 : Int) (a1 : Int) : Option (Bool) := (impl_within.f a1 1 (wrap64 (a0 - 1))).bind fun t206 => (some t206)
set_option maxHeartbeats 8000000 in
set_option maxRecDepth 100000 in
theorem impl_field_isUnit.calls (a0 : Int) (a1 : Int) (r : Bool) (w : World) (h : impl_field_isUnit.f a0 a1 = some r) :
  Calls Try.prog 107 #[.int .i64 a0, .int .i64 a1] w fun e w' => e = .returned (.bool r) ∧ Drawn0 w w' := by
 have H : ((impl_within.f a1 1 (wrap64 (a0 - 1))).bind fun t206 => (some t206)) = some r := h
 clear h
 replace H := Option.bind_eq_some_iff.mp H
 obtain ⟨t206, A30, H⟩ := H
 replace H : (some t206) = some r := H
 have A3 := zA A30
 clear A30
 obtain rfl := Option.some.inj H
 go_enter Try.func107, Try.ntmps107
 go_wp2_with (first | ((with_reducible refine gate_callee (f := 49) rfl ?_); refine gL (some 8) Try.func49 #[.int .i64 a1, .int .i64 1, .int .i64 (wrap64 (a0 - 1))] ?_; (with_reducible refine (impl_within.calls a1 1 (wrap64 (a0 - 1)) t206 _ A3.out).mono ?_); rintro e w' ⟨rfl, ⟨nd, rfl⟩⟩; refine ⟨_, rfl, ?_⟩))
 go_ret
 exact ⟨by first | rfl | (simp; done) | (simp [*]; done), by repeat (first | exact Drawn0.refl _ | apply Drawn0.step)⟩
/-! ### impl_IsJacobi: function 83 -/
def impl_IsJacobi.f (k : Nat) (a0_0 : Int) (l0_1 : List Int) (l0_2 : List Int) : Option (Bool) := (impl_IsPrime.f k a0_0).bind fun t208 => (if t208 = true then ((impl_Jacobi_size.f a0_0 l0_1 l0_2).bind fun t209 => ((impl_within.f t209 1 12).bind fun t210 => (if t210 = true then (if (l0_2.length : Int) = (l0_1.length : Int) then ((impl_Jacobi_field.f a0_0 l0_1 l0_2).bind fun t211 => ((impl_areAll_int64.f l0_1 (fun z_ => impl_field_has.f t211 z_)).bind fun t212 => (if t212 = true then ((impl_Jacobi_field.f a0_0 l0_1 l0_2).bind fun t213 => ((impl_areAll_int64.f l0_2 (fun z_ => impl_field_isUnit.f t213 z_)).bind fun t214 => (some t214))) else (some false)))) else (some false)) else (some false)))) else (some false))
theorem impl_IsJacobi.mono : ∀ a0 a1 a2 k, LeO (impl_IsJacobi.f k a0 a1 a2) (impl_IsJacobi.f (k + 1) a0 a1 a2) := by
 intro a0 a1 a2 k
 unfold impl_IsJacobi.f
 repeat' first
   | (with_reducible exact impl_IsPrime.mono _ _)
   | (with_reducible exact LeO.refl _)
   | (with_reducible exact LeO.none _)
   | (with_reducible refine LeO.ite ?_ ?_)
   | (with_reducible refine LeO.bind ?_ (fun _ => ?_))
   | exact impl_IsPrime.mono _ _
   | exact LeO.none _
   | refine LeO.ite ?_ ?_
   | refine LeO.bind ?_ (fun _ => ?_)
def impl_IsJacobi.T1 : Bool × List (List Nat × List Nat) := (true, [([], []), ([0], [0]), ([1], [1]), ([2, 2], [2]), ([3], [3]), ([4, 3, 3], [3, 4]), ([5, 5, 3], [3, 5]), ([3, 6], [3, 6]), ([7, 6], [7]), ([8], [8]), ([9, 8], [8, 9]), ([10, 8], [8, 10]), ([8], [8]), ([12, 8], [8, 12]), ([13, 8], [8, 13]), ([11, 14, 8], [8, 11, 14]), ([8, 15], [8, 15]), ([16, 8], [16]), ([17], [17]), ([18, 17], [17, 18]), ([17], [17]), ([20, 17, 17], [17, 20]), ([21, 17], [17, 21]), ([19, 22, 21, 17], [17, 19, 22]), ([17, 23], [17, 23]), ([24, 23], [24]), ([25], [25]), ([26, 25], [25, 26]), ([25], [25]), ([28, 25, 25], [25, 28]), ([29, 25], [25, 29]), ([27, 30, 29, 25], [25, 27, 30]), ([25, 31], [25, 31]), ([32, 31, 0, 1, 2, 3, 4, 5, 6, 7, 8, 9, 10, 11, 12, 13, 14, 15, 16, 17, 18, 19, 20, 21, 22, 23, 24, 25, 26, 27, 28, 29, 30, 31, 32], [32])])
def impl_IsJacobi.B1 : List Nat := [0, 1, 3, 7, 15, 31, 63, 127, 255, 511, 1023, 2047, 511, 4607, 12799, 32767, 65535, 131071, 262143, 524287, 262143, 1310719, 3407871, 8388607, 16777215, 33554431, 67108863, 134217727, 67108863, 335544319, 872415231, 2147483647, 4294967295, 8589934591]
theorem impl_IsJacobi.tab1 : rtab .any (opsOf Try.f83 1) = impl_IsJacobi.T1 := by kernel_rfl
theorem impl_IsJacobi.bits1 : waitsOk impl_IsJacobi.T1.2 impl_IsJacobi.B1 = true := by kernel_rfl
set_option maxHeartbeats 8000000 in
set_option maxRecDepth 100000 in
theorem impl_IsJacobi.calls (k : Nat) (a0_0 : Int) (A0_1 : Option Addr) (c0_1 : Nat) (l0_1 : List Int) (A0_2 : Option Addr) (c0_2 : Nat) (l0_2 : List Int) (r : Bool) (w : World) (hr0_1 : Kd.C (Kd.int .i64) w A0_1 l0_1.length l0_1) (hc0_1 : l0_1.length ≤ c0_1) (hr0_2 : Kd.C (Kd.int .i64) w A0_2 l0_2.length l0_2) (hc0_2 : l0_2.length ≤ c0_2) (h : impl_IsJacobi.f k a0_0 l0_1 l0_2 = some r) :
  Calls Try.prog 83 #[.agg #[.int .i64 a0_0, .slice A0_1 l0_1.length c0_1, .slice A0_2 l0_2.length c0_2]] w fun e w' => e = .returned (.bool r) ∧ Below w.heap.size w w' := by
 have hu28 := Try.underlying28
 have hmf : ∀ (fn_ : Fn) (first_ cap_ : Array Value) (w_ : World), (Instr.makeFunc fn_ first_ cap_).run Try.prog w_ = .ok (.func fn_ first_ cap_) w_ := fun _ _ _ _ => rfl
 have HR0_1 := zA hr0_1
 have HC0_1 := zA hc0_1
 clear hr0_1 hc0_1
 have HR0_2 := zA hr0_2
 have HC0_2 := zA hc0_2
 clear hr0_2 hc0_2
 have HB := zA (Below.refl w.heap.size w)
 have H : ((impl_IsPrime.f k a0_0).bind fun t208 => (if t208 = true then ((impl_Jacobi_size.f a0_0 l0_1 l0_2).bind fun t209 => ((impl_within.f t209 1 12).bind fun t210 => (if t210 = true then (if (l0_2.length : Int) = (l0_1.length : Int) then ((impl_Jacobi_field.f a0_0 l0_1 l0_2).bind fun t211 => ((impl_areAll_int64.f l0_1 (fun z_ => impl_field_has.f t211 z_)).bind fun t212 => (if t212 = true then ((impl_Jacobi_field.f a0_0 l0_1 l0_2).bind fun t213 => ((impl_areAll_int64.f l0_2 (fun z_ => impl_field_isUnit.f t213 z_)).bind fun t214 => (some t214))) else (some false)))) else (some false)) else (some false)))) else (some false))) = some r := h
 clear h
 replace H := Option.bind_eq_some_iff.mp H
 obtain ⟨t208, A20, H⟩ := H
 replace H : (if t208 = true then ((impl_Jacobi_size.f a0_0 l0_1 l0_2).bind fun t209 => ((impl_within.f t209 1 12).bind fun t210 => (if t210 = true then (if (l0_2.length : Int) = (l0_1.length : Int) then ((impl_Jacobi_field.f a0_0 l0_1 l0_2).bind fun t211 => ((impl_areAll_int64.f l0_1 (fun z_ => impl_field_has.f t211 z_)).bind fun t212 => (if t212 = true then ((impl_Jacobi_field.f a0_0 l0_1 l0_2).bind fun t213 => ((impl_areAll_int64.f l0_2 (fun z_ => impl_field_isUnit.f t213 z_)).bind fun t214 => (some t214))) else (some false)))) else (some false)) else (some false)))) else (some false)) = some r := H
 have A2 := zA A20
 clear A20
 by_cases c3 : t208 = true
 ·subst c3
  have H1 : ((impl_Jacobi_size.f a0_0 l0_1 l0_2).bind fun t209 => ((impl_within.f t209 1 12).bind fun t210 => (if t210 = true then (if (l0_2.length : Int) = (l0_1.length : Int) then ((impl_Jacobi_field.f a0_0 l0_1 l0_2).bind fun t211 => ((impl_areAll_int64.f l0_1 (fun z_ => impl_field_has.f t211 z_)).bind fun t212 => (if t212 = true then ((impl_Jacobi_field.f a0_0 l0_1 l0_2).bind fun t213 => ((impl_areAll_int64.f l0_2 (fun z_ => impl_field_isUnit.f t213 z_)).bind fun t214 => (some t214))) else (some false)))) else (some false)) else (some false)))) = some r := by rw [if_pos rfl] at H; exact H
  clear H
  have H := H1
  clear H1
  replace H := Option.bind_eq_some_iff.mp H
  obtain ⟨t209, A40, H⟩ := H
  replace H : ((impl_within.f t209 1 12).bind fun t210 => (if t210 = true then (if (l0_2.length : Int) = (l0_1.length : Int) then ((impl_Jacobi_field.f a0_0 l0_1 l0_2).bind fun t211 => ((impl_areAll_int64.f l0_1 (fun z_ => impl_field_has.f t211 z_)).bind fun t212 => (if t212 = true then ((impl_Jacobi_field.f a0_0 l0_1 l0_2).bind fun t213 => ((impl_areAll_int64.f l0_2 (fun z_ => impl_field_isUnit.f t213 z_)).bind fun t214 => (some t214))) else (some false)))) else (some false)) else (some false))) = some r := H
  have A4 := zA A40
  clear A40
  replace H := Option.bind_eq_some_iff.mp H
  obtain ⟨t210, A50, H⟩ := H
  replace H : (if t210 = true then (if (l0_2.length : Int) = (l0_1.length : Int) then ((impl_Jacobi_field.f a0_0 l0_1 l0_2).bind fun t211 => ((impl_areAll_int64.f l0_1 (fun z_ => impl_field_has.f t211 z_)).bind fun t212 => (if t212 = true then ((impl_Jacobi_field.f a0_0 l0_1 l0_2).bind fun t213 => ((impl_areAll_int64.f l0_2 (fun z_ => impl_field_isUnit.f t213 z_)).bind fun t214 => (some t214))) else (some false)))) else (some false)) else (some false)) = some r := H
  have A5 := zA A50
  clear A50
  by_cases c6 : t210 = true
  ·subst c6
   have H1 : (if (l0_2.length : Int) = (l0_1.length : Int) then ((impl_Jacobi_field.f a0_0 l0_1 l0_2).bind fun t211 => ((impl_areAll_int64.f l0_1 (fun z_ => impl_field_has.f t211 z_)).bind fun t212 => (if t212 = true then ((impl_Jacobi_field.f a0_0 l0_1 l0_2).bind fun t213 => ((impl_areAll_int64.f l0_2 (fun z_ => impl_field_isUnit.f t213 z_)).bind fun t214 => (some t214))) else (some false)))) else (some false)) = some r := by rw [if_pos rfl] at H; exact H
   clear H
   have H := H1
   clear H1
   by_cases c7 : (l0_2.length : Int) = (l0_1.length : Int)
   rotate_left
   ·rw [if_neg c7] at H
    have c7b0 : ((l0_2.length : Int) == (l0_1.length : Int)) = false := beq_eq_false_iff_ne.mpr c7
    have c7b1 : ((l0_2.length : Int) != (l0_1.length : Int)) = true := bne_iff_ne.mpr c7
    have c7b2 : (l0_2.length == l0_1.length) = false := by first | simpa using c7 | (simp at c7 ⊢; omega)
    obtain rfl := Option.some.inj H
    go_enter Try.func83, Try.ntmps83
    try go_wp2_with (first | ((with_reducible refine gate_dst (N := 1) rfl ?_); (try (refine gate_guard (by rfl) ?_; dsimp only)); refine bx 1 #[.int .i64 a0_0, .slice A0_1 l0_1.length c0_1, .slice A0_2 l0_2.length c0_2] 28 ?_; intro gb207 hg w25 hbox hb; have BK207 := zA (hbox); have GW207 := gq HB hg; have GE207 := gq HB hg; replace HB := xH HB hb; have := geI GE207; clear hb hbox hg))
    replace BK207 := zA (blk_drew BK207.out)
    replace HB := zA (below_drew1 HB.out)
    refine start_ (n := 34) (S := fun w' => w'.cell? ⟨gb207, 0, none⟩ = some (.int .i64 a0_0) ∧ w'.cell? ⟨gb207, 1, none⟩ = some (.slice A0_1 l0_1.length c0_1) ∧ w'.cell? ⟨gb207, 2, none⟩ = some (.slice A0_2 l0_2.length c0_2)) (ds := []) #[false, false, false, false, false, false, false, false, false, false, false, false, false, false, false, false, false, false, false, false, false, false, false, false, false, false, false, false, false, false, false, false, false, false] (by kernel_rfl) rfl rfl ⟨bcu BK207 0, bcu BK207 1, bcu BK207 2⟩ (fun hHeld => ?_); refine with_tabW impl_IsJacobi.tab1 impl_IsJacobi.bits1 (fun HT_ HW_ => ?_)
    generalize w25.drew = w26 at BK207 HB hHeld ⊢
    refine pu_ 0 3 (bl 34 1) HT_ ?_
    refine ta_ 1 4 (bl 34 3) HT_ HW_ hHeld ?_
    refine on_ 2 (some 5) (bl 34 7) HT_ (fun K hK => ?_)
    refine gS Try.func98 #[.int .i64 a0_0] ?_
    with_reducible refine (impl_IsPrime.calls k a0_0 true _ A2.out).mono ?_
    rintro e w' ⟨rfl, ⟨nd, rfl⟩⟩
    refine ⟨_, rfl, ?_⟩
    refine hK.out _ _ ⟨bcu BK207 0, bcu BK207 1, bcu BK207 2⟩ (fun hHeld => ?_)
    clear hK K
    refine no_ 5 ?_
    refine pu_ 3 6 (bl 34 15) HT_ ?_
    refine ta_ 4 7 (bl 34 31) HT_ HW_ hHeld ?_
    refine on_ 5 (some 8) (bl 34 63) HT_ (fun K hK => ?_)
    refine gS Try.func50 #[.agg #[.int .i64 a0_0, .slice A0_1 l0_1.length c0_1, .slice A0_2 l0_2.length c0_2]] ?_
    with_reducible refine (impl_Jacobi_size.calls a0_0 _ _ l0_1 _ _ l0_2 t209 _ ?side1 ?side2 ?side3 ?side4 A4.out).mono ?_
    (case side1 => repeat (first | exact (Kd.C_below HR0_1.out (uH HB.out)) | (with_reducible refine Kd.C_alloc ?_ _) | (with_reducible refine Kd.C_drewN ?_ _) | (with_reducible refine Kd.C_drew ?_)))
    (case side2 => exact HC0_1.out)
    (case side3 => repeat (first | exact (Kd.C_below HR0_2.out (uH HB.out)) | (with_reducible refine Kd.C_alloc ?_ _) | (with_reducible refine Kd.C_drewN ?_ _) | (with_reducible refine Kd.C_drew ?_)))
    (case side4 => exact HC0_2.out)
    rintro e w27 ⟨rfl, hb⟩
    refine ⟨_, rfl, ?_⟩
    replace BK207 := xB BK207 hb
    replace HB := xH HB hb
    (try clear hb); (try clear hb2); (try clear hk); (try clear hi)
    refine hK.out _ _ ⟨bcu BK207 0, bcu BK207 1, bcu BK207 2⟩ (fun hHeld => ?_)
    clear hK K
    refine no_ 8 ?_
    refine on_ 6 (some 9) (bl 34 127) HT_ (fun K hK => ?_)
    refine gS Try.func49 #[.int .i64 t209, .int .i64 1, .int .i64 12] ?_
    with_reducible refine (impl_within.calls t209 1 12 true _ A5.out).mono ?_
    rintro e w' ⟨rfl, ⟨nd, rfl⟩⟩
    refine ⟨_, rfl, ?_⟩
    refine hK.out _ _ ⟨bcu BK207 0, bcu BK207 1, bcu BK207 2⟩ (fun hHeld => ?_)
    clear hK K
    refine no_ 9 ?_
    refine pu_ 7 10 (bl 34 255) HT_ ?_
    refine pu_ 8 11 (bl 34 511) HT_ ?_
    refine pu_ 9 12 (bl 34 1023) HT_ ?_
    refine pu_ 12 15 (bl 34 5119) HT_ ?_
    refine ta_ 10 13 (bl 34 6143) HT_ HW_ hHeld ?_
    refine pu_ 11 14 (bl 34 8191) HT_ ?_
    refine ta_ 13 16 (bl 34 16383) HT_ HW_ hHeld ?_
    refine pu_ 14 17 (bl 34 32767) HT_ ?_
    refine pu_ 15 18 (bl 34 65535) HT_ ?_
    refine pu_ 16 19 (bl 34 131071) HT_ ?_
    refine pu_ 17 20 (bl 34 262143) HT_ ?_
    refine un_ 18 21 (bl 34 524287) HT_ ?_
    refine un_ 19 22 (bl 34 1048575) HT_ ?_
    refine un_ 20 23 (bl 34 2097151) HT_ ?_
    refine un_ 21 24 (bl 34 4194303) HT_ ?_
    refine un_ 22 25 (bl 34 8388607) HT_ ?_
    refine un_ 23 26 (bl 34 16777215) HT_ ?_
    refine pu_ 24 27 (bl 34 33554431) HT_ ?_
    refine pu_ 25 28 (bl 34 67108863) HT_ ?_
    refine un_ 26 29 (bl 34 134217727) HT_ ?_
    refine un_ 27 30 (bl 34 268435455) HT_ ?_
    refine un_ 28 31 (bl 34 536870911) HT_ ?_
    refine un_ 29 32 (bl 34 1073741823) HT_ ?_
    refine un_ 30 33 (bl 34 2147483647) HT_ ?_
    refine un_ 31 34 (bl 34 4294967295) HT_ ?_
    refine pu_ 32 35 (bl 34 8589934591) HT_ ?_
    refine pu_ 33 2 (bl 34 17179869183) HT_ ?_
    refine done_ (done_of HT_.out (by kernel_rfl)) ?_
    try go_wp2
    go_ret
    exact ⟨by first | rfl | (simp [errW_none, errW_some] <;> rfl) | (simp [*, errW_none, errW_some] <;> rfl), uH HB.out⟩
   rw [if_pos c7] at H
   have c7b0 : ((l0_2.length : Int) == (l0_1.length : Int)) = true := beq_iff_eq.mpr c7
   have c7b1 : ((l0_2.length : Int) != (l0_1.length : Int)) = false := bne_eq_false_iff_eq.mpr c7
   have c7b2 : (l0_2.length == l0_1.length) = true := by first | simpa using c7 | (simp at c7 ⊢; omega)
   clear c7
   replace H := Option.bind_eq_some_iff.mp H
   obtain ⟨t211, A80, H⟩ := H
   replace H : ((impl_areAll_int64.f l0_1 (fun z_ => impl_field_has.f t211 z_)).bind fun t212 => (if t212 = true then ((impl_Jacobi_field.f a0_0 l0_1 l0_2).bind fun t213 => ((impl_areAll_int64.f l0_2 (fun z_ => impl_field_isUnit.f t213 z_)).bind fun t214 => (some t214))) else (some false))) = some r := H
   have A8 := zA A80
   clear A80
   replace H := Option.bind_eq_some_iff.mp H
   obtain ⟨t212, A90, H⟩ := H
   replace H : (if t212 = true then ((impl_Jacobi_field.f a0_0 l0_1 l0_2).bind fun t213 => ((impl_areAll_int64.f l0_2 (fun z_ => impl_field_isUnit.f t213 z_)).bind fun t214 => (some t214))) else (some false)) = some r := H
   have A9 := zA A90
   clear A90
   by_cases c10 : t212 = true
   ·subst c10
    have H1 : ((impl_Jacobi_field.f a0_0 l0_1 l0_2).bind fun t213 => ((impl_areAll_int64.f l0_2 (fun z_ => impl_field_isUnit.f t213 z_)).bind fun t214 => (some t214))) = some r := by rw [if_pos rfl] at H; exact H
    clear H
    have H := H1
    clear H1
    replace H := Option.bind_eq_some_iff.mp H
    obtain ⟨t213, A110, H⟩ := H
    replace H : ((impl_areAll_int64.f l0_2 (fun z_ => impl_field_isUnit.f t213 z_)).bind fun t214 => (some t214)) = some r := H
    have A11 := zA A110
    clear A110
    replace H := Option.bind_eq_some_iff.mp H
    obtain ⟨t214, A120, H⟩ := H
    replace H : (some t214) = some r := H
    have A12 := zA A120
    clear A120
    obtain rfl := Option.some.inj H
    go_enter Try.func83, Try.ntmps83
    try go_wp2_with (first | ((with_reducible refine gate_dst (N := 1) rfl ?_); (try (refine gate_guard (by rfl) ?_; dsimp only)); refine bx 1 #[.int .i64 a0_0, .slice A0_1 l0_1.length c0_1, .slice A0_2 l0_2.length c0_2] 28 ?_; intro gb207 hg w13 hbox hb; have BK207 := zA (hbox); have GW207 := gq HB hg; have GE207 := gq HB hg; replace HB := xH HB hb; have := geI GE207; clear hb hbox hg))
    replace BK207 := zA (blk_drew BK207.out)
    replace HB := zA (below_drew1 HB.out)
    refine start_ (n := 34) (S := fun w' => w'.cell? ⟨gb207, 0, none⟩ = some (.int .i64 a0_0) ∧ w'.cell? ⟨gb207, 1, none⟩ = some (.slice A0_1 l0_1.length c0_1) ∧ w'.cell? ⟨gb207, 2, none⟩ = some (.slice A0_2 l0_2.length c0_2)) (ds := []) #[false, false, false, false, false, false, false, false, false, false, false, false, false, false, false, false, false, false, false, false, false, false, false, false, false, false, false, false, false, false, false, false, false, false] (by kernel_rfl) rfl rfl ⟨bcu BK207 0, bcu BK207 1, bcu BK207 2⟩ (fun hHeld => ?_); refine with_tabW impl_IsJacobi.tab1 impl_IsJacobi.bits1 (fun HT_ HW_ => ?_)
    generalize w13.drew = w14 at BK207 HB hHeld ⊢
    refine pu_ 0 3 (bl 34 1) HT_ ?_
    refine ta_ 1 4 (bl 34 3) HT_ HW_ hHeld ?_
    refine on_ 2 (some 5) (bl 34 7) HT_ (fun K hK => ?_)
    refine gS Try.func98 #[.int .i64 a0_0] ?_
    with_reducible refine (impl_IsPrime.calls k a0_0 true _ A2.out).mono ?_
    rintro e w' ⟨rfl, ⟨nd, rfl⟩⟩
    refine ⟨_, rfl, ?_⟩
    refine hK.out _ _ ⟨bcu BK207 0, bcu BK207 1, bcu BK207 2⟩ (fun hHeld => ?_)
    clear hK K
    refine no_ 5 ?_
    refine pu_ 3 6 (bl 34 15) HT_ ?_
    refine ta_ 4 7 (bl 34 31) HT_ HW_ hHeld ?_
    refine on_ 5 (some 8) (bl 34 63) HT_ (fun K hK => ?_)
    refine gS Try.func50 #[.agg #[.int .i64 a0_0, .slice A0_1 l0_1.length c0_1, .slice A0_2 l0_2.length c0_2]] ?_
    with_reducible refine (impl_Jacobi_size.calls a0_0 _ _ l0_1 _ _ l0_2 t209 _ ?side1 ?side2 ?side3 ?side4 A4.out).mono ?_
    (case side1 => repeat (first | exact (Kd.C_below HR0_1.out (uH HB.out)) | (with_reducible refine Kd.C_alloc ?_ _) | (with_reducible refine Kd.C_drewN ?_ _) | (with_reducible refine Kd.C_drew ?_)))
    (case side2 => exact HC0_1.out)
    (case side3 => repeat (first | exact (Kd.C_below HR0_2.out (uH HB.out)) | (with_reducible refine Kd.C_alloc ?_ _) | (with_reducible refine Kd.C_drewN ?_ _) | (with_reducible refine Kd.C_drew ?_)))
    (case side4 => exact HC0_2.out)
    rintro e w15 ⟨rfl, hb⟩
    refine ⟨_, rfl, ?_⟩
    replace BK207 := xB BK207 hb
    replace HB := xH HB hb
    (try clear hb); (try clear hb2); (try clear hk); (try clear hi)
    refine hK.out _ _ ⟨bcu BK207 0, bcu BK207 1, bcu BK207 2⟩ (fun hHeld => ?_)
    clear hK K
    refine no_ 8 ?_
    refine on_ 6 (some 9) (bl 34 127) HT_ (fun K hK => ?_)
    refine gS Try.func49 #[.int .i64 t209, .int .i64 1, .int .i64 12] ?_
    with_reducible refine (impl_within.calls t209 1 12 true _ A5.out).mono ?_
    rintro e w' ⟨rfl, ⟨nd, rfl⟩⟩
    refine ⟨_, rfl, ?_⟩
    refine hK.out _ _ ⟨bcu BK207 0, bcu BK207 1, bcu BK207 2⟩ (fun hHeld => ?_)
    clear hK K
    refine no_ 9 ?_
    refine pu_ 7 10 (bl 34 255) HT_ ?_
    refine pu_ 8 11 (bl 34 511) HT_ ?_
    refine pu_ 9 12 (bl 34 1023) HT_ ?_
    refine pu_ 12 15 (bl 34 5119) HT_ ?_
    refine ta_ 10 13 (bl 34 6143) HT_ HW_ hHeld ?_
    refine pu_ 11 14 (bl 34 8191) HT_ ?_
    refine ta_ 13 16 (bl 34 16383) HT_ HW_ hHeld ?_
    refine pu_ 14 17 (bl 34 32767) HT_ ?_
    refine pu_ 15 18 (bl 34 65535) HT_ ?_
    refine pu_ 16 19 (bl 34 131071) HT_ ?_
    refine pu_ 17 20 (bl 34 262143) HT_ ?_
    refine pu_ 18 21 (bl 34 524287) HT_ ?_
    refine ta_ 19 22 (bl 34 1048575) HT_ HW_ hHeld ?_
    refine ta_ 20 23 (bl 34 2097151) HT_ HW_ hHeld ?_
    refine on_ 21 (some 24) (bl 34 4194303) HT_ (fun K hK => ?_)
    refine gS Try.func64 #[.agg #[.int .i64 a0_0, .slice A0_1 l0_1.length c0_1, .slice A0_2 l0_2.length c0_2]] ?_
    with_reducible refine (impl_Jacobi_field.calls a0_0 _ _ l0_1 _ _ l0_2 t211 _ ?side1 ?side2 ?side3 ?side4 A8.out).mono ?_
    (case side1 => repeat (first | exact (Kd.C_below HR0_1.out (uH HB.out)) | (with_reducible refine Kd.C_alloc ?_ _) | (with_reducible refine Kd.C_drewN ?_ _) | (with_reducible refine Kd.C_drew ?_)))
    (case side2 => exact HC0_1.out)
    (case side3 => repeat (first | exact (Kd.C_below HR0_2.out (uH HB.out)) | (with_reducible refine Kd.C_alloc ?_ _) | (with_reducible refine Kd.C_drewN ?_ _) | (with_reducible refine Kd.C_drew ?_)))
    (case side4 => exact HC0_2.out)
    rintro e w16 ⟨rfl, hb⟩
    refine ⟨_, rfl, ?_⟩
    replace BK207 := xB BK207 hb
    replace HB := xH HB hb
    (try clear hb); (try clear hb2); (try clear hk); (try clear hi)
    refine hK.out _ _ ⟨bcu BK207 0, bcu BK207 1, bcu BK207 2⟩ (fun hHeld => ?_)
    clear hK K
    refine no_ 24 ?_
    refine pu_ 22 25 (bl 34 8388607) HT_ ?_
    refine on_ 23 (some 26) (bl 34 16777215) HT_ (fun K hK => ?_)
    refine gS Try.func99 #[.slice A0_1 l0_1.length c0_1, (.func (.func 100) #[.int .i64 t211] #[])] ?_
    with_reducible refine (impl_areAll_int64.calls _ _ l0_1 _ (fun z_ => impl_field_has.f t211 z_) true _ ?side1 ?side2 ?side3 A9.out).mono ?_
    (case side1 => exact uC ((Kd.C_below HR0_1.out HB.out)))
    (case side2 => exact HC0_1.out)
    (case side3 => exact FnI.of Try.func100 (by kernel_rfl) rfl (fun z_ r_ hr_ W_ hW_ => calls_of_args (args' := #[.int .i64 t211, .int .i64 z_]) (by simp) ((impl_field_has.calls t211 z_ r_ W_  hr_).mono fun e_ W2_ h_ => ⟨h_.1, h_.2.below⟩)))
    rintro e w17 ⟨rfl, hb⟩
    refine ⟨_, rfl, ?_⟩
    replace BK207 := xB BK207 hb
    replace HB := xH HB hb
    (try clear hb); (try clear hb2); (try clear hk); (try clear hi)
    refine hK.out _ _ ⟨bcu BK207 0, bcu BK207 1, bcu BK207 2⟩ (fun hHeld => ?_)
    clear hK K
    refine no_ 26 ?_
    refine pu_ 24 27 (bl 34 33554431) HT_ ?_
    refine pu_ 25 28 (bl 34 67108863) HT_ ?_
    refine pu_ 26 29 (bl 34 134217727) HT_ ?_
    refine ta_ 27 30 (bl 34 268435455) HT_ HW_ hHeld ?_
    refine ta_ 28 31 (bl 34 536870911) HT_ HW_ hHeld ?_
    refine on_ 29 (some 32) (bl 34 1073741823) HT_ (fun K hK => ?_)
    refine gS Try.func64 #[.agg #[.int .i64 a0_0, .slice A0_1 l0_1.length c0_1, .slice A0_2 l0_2.length c0_2]] ?_
    with_reducible refine (impl_Jacobi_field.calls a0_0 _ _ l0_1 _ _ l0_2 t213 _ ?side1 ?side2 ?side3 ?side4 A11.out).mono ?_
    (case side1 => exact uC ((Kd.C_below HR0_1.out HB.out)))
    (case side2 => exact HC0_1.out)
    (case side3 => exact uC ((Kd.C_below HR0_2.out HB.out)))
    (case side4 => exact HC0_2.out)
    rintro e w18 ⟨rfl, hb⟩
    refine ⟨_, rfl, ?_⟩
    replace BK207 := xB BK207 hb
    replace HB := xH HB hb
    (try clear hb); (try clear hb2); (try clear hk); (try clear hi)
    refine hK.out _ _ ⟨bcu BK207 0, bcu BK207 1, bcu BK207 2⟩ (fun hHeld => ?_)
    clear hK K
    refine no_ 32 ?_
    refine pu_ 30 33 (bl 34 2147483647) HT_ ?_
    refine on_ 31 (some 34) (bl 34 4294967295) HT_ (fun K hK => ?_)
    refine gS Try.func99 #[.slice A0_2 l0_2.length c0_2, (.func (.func 107) #[.int .i64 t213] #[])] ?_
    with_reducible refine (impl_areAll_int64.calls _ _ l0_2 _ (fun z_ => impl_field_isUnit.f t213 z_) t214 _ ?side1 ?side2 ?side3 A12.out).mono ?_
    (case side1 => exact uC ((Kd.C_below HR0_2.out HB.out)))
    (case side2 => exact HC0_2.out)
    (case side3 => exact FnI.of Try.func107 (by kernel_rfl) rfl (fun z_ r_ hr_ W_ hW_ => calls_of_args (args' := #[.int .i64 t213, .int .i64 z_]) (by simp) ((impl_field_isUnit.calls t213 z_ r_ W_  hr_).mono fun e_ W2_ h_ => ⟨h_.1, h_.2.below⟩)))
    rintro e w19 ⟨rfl, hb⟩
    refine ⟨_, rfl, ?_⟩
    replace BK207 := xB BK207 hb
    replace HB := xH HB hb
    (try clear hb); (try clear hb2); (try clear hk); (try clear hi)
    refine hK.out _ _ ⟨bcu BK207 0, bcu BK207 1, bcu BK207 2⟩ (fun hHeld => ?_)
    clear hK K
    refine no_ 34 ?_
    refine pu_ 32 35 (bl 34 8589934591) HT_ ?_
    refine pu_ 33 2 (bl 34 17179869183) HT_ ?_
    refine done_ (done_of HT_.out (by kernel_rfl)) ?_
    try go_wp2
    go_ret
    exact ⟨by first | rfl | (simp [errW_none, errW_some] <;> rfl) | (simp [*, errW_none, errW_some] <;> rfl), uH HB.out⟩
   ·replace c10 := Bool.eq_false_iff.mpr c10
    subst c10
    have H1 : (some false) = some r := by rw [if_neg (show ¬ (false = true) by decide)] at H; exact H
    clear H
    have H := H1
    clear H1
    obtain rfl := Option.some.inj H
    go_enter Try.func83, Try.ntmps83
    try go_wp2_with (first | ((with_reducible refine gate_dst (N := 1) rfl ?_); (try (refine gate_guard (by rfl) ?_; dsimp only)); refine bx 1 #[.int .i64 a0_0, .slice A0_1 l0_1.length c0_1, .slice A0_2 l0_2.length c0_2] 28 ?_; intro gb207 hg w20 hbox hb; have BK207 := zA (hbox); have GW207 := gq HB hg; have GE207 := gq HB hg; replace HB := xH HB hb; have := geI GE207; clear hb hbox hg))
    replace BK207 := zA (blk_drew BK207.out)
    replace HB := zA (below_drew1 HB.out)
    refine start_ (n := 34) (S := fun w' => w'.cell? ⟨gb207, 0, none⟩ = some (.int .i64 a0_0) ∧ w'.cell? ⟨gb207, 1, none⟩ = some (.slice A0_1 l0_1.length c0_1) ∧ w'.cell? ⟨gb207, 2, none⟩ = some (.slice A0_2 l0_2.length c0_2)) (ds := []) #[false, false, false, false, false, false, false, false, false, false, false, false, false, false, false, false, false, false, false, false, false, false, false, false, false, false, false, false, false, false, false, false, false, false] (by kernel_rfl) rfl rfl ⟨bcu BK207 0, bcu BK207 1, bcu BK207 2⟩ (fun hHeld => ?_); refine with_tabW impl_IsJacobi.tab1 impl_IsJacobi.bits1 (fun HT_ HW_ => ?_)
    generalize w20.drew = w21 at BK207 HB hHeld ⊢
    refine pu_ 0 3 (bl 34 1) HT_ ?_
    refine ta_ 1 4 (bl 34 3) HT_ HW_ hHeld ?_
    refine on_ 2 (some 5) (bl 34 7) HT_ (fun K hK => ?_)
    refine gS Try.func98 #[.int .i64 a0_0] ?_
    with_reducible refine (impl_IsPrime.calls k a0_0 true _ A2.out).mono ?_
    rintro e w' ⟨rfl, ⟨nd, rfl⟩⟩
    refine ⟨_, rfl, ?_⟩
    refine hK.out _ _ ⟨bcu BK207 0, bcu BK207 1, bcu BK207 2⟩ (fun hHeld => ?_)
    clear hK K
    refine no_ 5 ?_
    refine pu_ 3 6 (bl 34 15) HT_ ?_
    refine ta_ 4 7 (bl 34 31) HT_ HW_ hHeld ?_
    refine on_ 5 (some 8) (bl 34 63) HT_ (fun K hK => ?_)
    refine gS Try.func50 #[.agg #[.int .i64 a0_0, .slice A0_1 l0_1.length c0_1, .slice A0_2 l0_2.length c0_2]] ?_
    with_reducible refine (impl_Jacobi_size.calls a0_0 _ _ l0_1 _ _ l0_2 t209 _ ?side1 ?side2 ?side3 ?side4 A4.out).mono ?_
    (case side1 => repeat (first | exact (Kd.C_below HR0_1.out (uH HB.out)) | (with_reducible refine Kd.C_alloc ?_ _) | (with_reducible refine Kd.C_drewN ?_ _) | (with_reducible refine Kd.C_drew ?_)))
    (case side2 => exact HC0_1.out)
    (case side3 => repeat (first | exact (Kd.C_below HR0_2.out (uH HB.out)) | (with_reducible refine Kd.C_alloc ?_ _) | (with_reducible refine Kd.C_drewN ?_ _) | (with_reducible refine Kd.C_drew ?_)))
    (case side4 => exact HC0_2.out)
    rintro e w22 ⟨rfl, hb⟩
    refine ⟨_, rfl, ?_⟩
    replace BK207 := xB BK207 hb
    replace HB := xH HB hb
    (try clear hb); (try clear hb2); (try clear hk); (try clear hi)
    refine hK.out _ _ ⟨bcu BK207 0, bcu BK207 1, bcu BK207 2⟩ (fun hHeld => ?_)
    clear hK K
    refine no_ 8 ?_
    refine on_ 6 (some 9) (bl 34 127) HT_ (fun K hK => ?_)
    refine gS Try.func49 #[.int .i64 t209, .int .i64 1, .int .i64 12] ?_
    with_reducible refine (impl_within.calls t209 1 12 true _ A5.out).mono ?_
    rintro e w' ⟨rfl, ⟨nd, rfl⟩⟩
    refine ⟨_, rfl, ?_⟩
    refine hK.out _ _ ⟨bcu BK207 0, bcu BK207 1, bcu BK207 2⟩ (fun hHeld => ?_)
    clear hK K
    refine no_ 9 ?_
    refine pu_ 7 10 (bl 34 255) HT_ ?_
    refine pu_ 8 11 (bl 34 511) HT_ ?_
    refine pu_ 9 12 (bl 34 1023) HT_ ?_
    refine pu_ 12 15 (bl 34 5119) HT_ ?_
    refine ta_ 10 13 (bl 34 6143) HT_ HW_ hHeld ?_
    refine pu_ 11 14 (bl 34 8191) HT_ ?_
    refine ta_ 13 16 (bl 34 16383) HT_ HW_ hHeld ?_
    refine pu_ 14 17 (bl 34 32767) HT_ ?_
    refine pu_ 15 18 (bl 34 65535) HT_ ?_
    refine pu_ 16 19 (bl 34 131071) HT_ ?_
    refine pu_ 17 20 (bl 34 262143) HT_ ?_
    refine pu_ 18 21 (bl 34 524287) HT_ ?_
    refine ta_ 19 22 (bl 34 1048575) HT_ HW_ hHeld ?_
    refine ta_ 20 23 (bl 34 2097151) HT_ HW_ hHeld ?_
    refine on_ 21 (some 24) (bl 34 4194303) HT_ (fun K hK => ?_)
    refine gS Try.func64 #[.agg #[.int .i64 a0_0, .slice A0_1 l0_1.length c0_1, .slice A0_2 l0_2.length c0_2]] ?_
    with_reducible refine (impl_Jacobi_field.calls a0_0 _ _ l0_1 _ _ l0_2 t211 _ ?side1 ?side2 ?side3 ?side4 A8.out).mono ?_
    (case side1 => repeat (first | exact (Kd.C_below HR0_1.out (uH HB.out)) | (with_reducible refine Kd.C_alloc ?_ _) | (with_reducible refine Kd.C_drewN ?_ _) | (with_reducible refine Kd.C_drew ?_)))
    (case side2 => exact HC0_1.out)
    (case side3 => repeat (first | exact (Kd.C_below HR0_2.out (uH HB.out)) | (with_reducible refine Kd.C_alloc ?_ _) | (with_reducible refine Kd.C_drewN ?_ _) | (with_reducible refine Kd.C_drew ?_)))
    (case side4 => exact HC0_2.out)
    rintro e w23 ⟨rfl, hb⟩
    refine ⟨_, rfl, ?_⟩
    replace BK207 := xB BK207 hb
    replace HB := xH HB hb
    (try clear hb); (try clear hb2); (try clear hk); (try clear hi)
    refine hK.out _ _ ⟨bcu BK207 0, bcu BK207 1, bcu BK207 2⟩ (fun hHeld => ?_)
    clear hK K
    refine no_ 24 ?_
    refine pu_ 22 25 (bl 34 8388607) HT_ ?_
    refine on_ 23 (some 26) (bl 34 16777215) HT_ (fun K hK => ?_)
    refine gS Try.func99 #[.slice A0_1 l0_1.length c0_1, (.func (.func 100) #[.int .i64 t211] #[])] ?_
    with_reducible refine (impl_areAll_int64.calls _ _ l0_1 _ (fun z_ => impl_field_has.f t211 z_) false _ ?side1 ?side2 ?side3 A9.out).mono ?_
    (case side1 => exact uC ((Kd.C_below HR0_1.out HB.out)))
    (case side2 => exact HC0_1.out)
    (case side3 => exact FnI.of Try.func100 (by kernel_rfl) rfl (fun z_ r_ hr_ W_ hW_ => calls_of_args (args' := #[.int .i64 t211, .int .i64 z_]) (by simp) ((impl_field_has.calls t211 z_ r_ W_  hr_).mono fun e_ W2_ h_ => ⟨h_.1, h_.2.below⟩)))
    rintro e w24 ⟨rfl, hb⟩
    refine ⟨_, rfl, ?_⟩
    replace BK207 := xB BK207 hb
    replace HB := xH HB hb
    (try clear hb); (try clear hb2); (try clear hk); (try clear hi)
    refine hK.out _ _ ⟨bcu BK207 0, bcu BK207 1, bcu BK207 2⟩ (fun hHeld => ?_)
    clear hK K
    refine no_ 26 ?_
    refine pu_ 24 27 (bl 34 33554431) HT_ ?_
    refine pu_ 25 28 (bl 34 67108863) HT_ ?_
    refine un_ 26 29 (bl 34 134217727) HT_ ?_
    refine un_ 27 30 (bl 34 268435455) HT_ ?_
    refine un_ 28 31 (bl 34 536870911) HT_ ?_
    refine un_ 29 32 (bl 34 1073741823) HT_ ?_
    refine un_ 30 33 (bl 34 2147483647) HT_ ?_
    refine un_ 31 34 (bl 34 4294967295) HT_ ?_
    refine pu_ 32 35 (bl 34 8589934591) HT_ ?_
    refine pu_ 33 2 (bl 34 17179869183) HT_ ?_
    refine done_ (done_of HT_.out (by kernel_rfl)) ?_
    try go_wp2
    go_ret
    exact ⟨by first | rfl | (simp [errW_none, errW_some] <;> rfl) | (simp [*, errW_none, errW_some] <;> rfl), uH HB.out⟩
  ·replace c6 := Bool.eq_false_iff.mpr c6
   subst c6
   have H1 : (some false) = some r := by rw [if_neg (show ¬ (false = true) by decide)] at H; exact H
   clear H
   have H := H1
   clear H1
   obtain rfl := Option.some.inj H
   go_enter Try.func83, Try.ntmps83
   try go_wp2_with (first | ((with_reducible refine gate_dst (N := 1) rfl ?_); (try (refine gate_guard (by rfl) ?_; dsimp only)); refine bx 1 #[.int .i64 a0_0, .slice A0_1 l0_1.length c0_1, .slice A0_2 l0_2.length c0_2] 28 ?_; intro gb207 hg w28 hbox hb; have BK207 := zA (hbox); have GW207 := gq HB hg; have GE207 := gq HB hg; replace HB := xH HB hb; have := geI GE207; clear hb hbox hg))
   replace BK207 := zA (blk_drew BK207.out)
   replace HB := zA (below_drew1 HB.out)
   refine start_ (n := 34) (S := fun w' => w'.cell? ⟨gb207, 0, none⟩ = some (.int .i64 a0_0) ∧ w'.cell? ⟨gb207, 1, none⟩ = some (.slice A0_1 l0_1.length c0_1) ∧ w'.cell? ⟨gb207, 2, none⟩ = some (.slice A0_2 l0_2.length c0_2)) (ds := []) #[false, false, false, false, false, false, false, false, false, false, false, false, false, false, false, false, false, false, false, false, false, false, false, false, false, false, false, false, false, false, false, false, false, false] (by kernel_rfl) rfl rfl ⟨bcu BK207 0, bcu BK207 1, bcu BK207 2⟩ (fun hHeld => ?_); refine with_tabW impl_IsJacobi.tab1 impl_IsJacobi.bits1 (fun HT_ HW_ => ?_)
   generalize w28.drew = w29 at BK207 HB hHeld ⊢
   refine pu_ 0 3 (bl 34 1) HT_ ?_
   refine ta_ 1 4 (bl 34 3) HT_ HW_ hHeld ?_
   refine on_ 2 (some 5) (bl 34 7) HT_ (fun K hK => ?_)
   refine gS Try.func98 #[.int .i64 a0_0] ?_
   with_reducible refine (impl_IsPrime.calls k a0_0 true _ A2.out).mono ?_
   rintro e w' ⟨rfl, ⟨nd, rfl⟩⟩
   refine ⟨_, rfl, ?_⟩
   refine hK.out _ _ ⟨bcu BK207 0, bcu BK207 1, bcu BK207 2⟩ (fun hHeld => ?_)
   clear hK K
   refine no_ 5 ?_
   refine pu_ 3 6 (bl 34 15) HT_ ?_
   refine ta_ 4 7 (bl 34 31) HT_ HW_ hHeld ?_
   refine on_ 5 (some 8) (bl 34 63) HT_ (fun K hK => ?_)
   refine gS Try.func50 #[.agg #[.int .i64 a0_0, .slice A0_1 l0_1.length c0_1, .slice A0_2 l0_2.length c0_2]] ?_
   with_reducible refine (impl_Jacobi_size.calls a0_0 _ _ l0_1 _ _ l0_2 t209 _ ?side1 ?side2 ?side3 ?side4 A4.out).mono ?_
   (case side1 => repeat (first | exact (Kd.C_below HR0_1.out (uH HB.out)) | (with_reducible refine Kd.C_alloc ?_ _) | (with_reducible refine Kd.C_drewN ?_ _) | (with_reducible refine Kd.C_drew ?_)))
   (case side2 => exact HC0_1.out)
   (case side3 => repeat (first | exact (Kd.C_below HR0_2.out (uH HB.out)) | (with_reducible refine Kd.C_alloc ?_ _) | (with_reducible refine Kd.C_drewN ?_ _) | (with_reducible refine Kd.C_drew ?_)))
   (case side4 => exact HC0_2.out)
   rintro e w30 ⟨rfl, hb⟩
   refine ⟨_, rfl, ?_⟩
   replace BK207 := xB BK207 hb
   replace HB := xH HB hb
   (try clear hb); (try clear hb2); (try clear hk); (try clear hi)
   refine hK.out _ _ ⟨bcu BK207 0, bcu BK207 1, bcu BK207 2⟩ (fun hHeld => ?_)
   clear hK K
   refine no_ 8 ?_
   refine on_ 6 (some 9) (bl 34 127) HT_ (fun K hK => ?_)
   refine gS Try.func49 #[.int .i64 t209, .int .i64 1, .int .i64 12] ?_
   with_reducible refine (impl_within.calls t209 1 12 false _ A5.out).mono ?_
   rintro e w' ⟨rfl, ⟨nd, rfl⟩⟩
   refine ⟨_, rfl, ?_⟩
   refine hK.out _ _ ⟨bcu BK207 0, bcu BK207 1, bcu BK207 2⟩ (fun hHeld => ?_)
   clear hK K
   refine no_ 9 ?_
   refine pu_ 7 10 (bl 34 255) HT_ ?_
   refine pu_ 8 11 (bl 34 511) HT_ ?_
   refine un_ 9 12 (bl 34 1023) HT_ ?_
   refine un_ 10 13 (bl 34 2047) HT_ ?_
   refine un_ 11 14 (bl 34 4095) HT_ ?_
   refine un_ 12 15 (bl 34 8191) HT_ ?_
   refine un_ 13 16 (bl 34 16383) HT_ ?_
   refine un_ 14 17 (bl 34 32767) HT_ ?_
   refine un_ 15 18 (bl 34 65535) HT_ ?_
   refine pu_ 16 19 (bl 34 131071) HT_ ?_
   refine pu_ 17 20 (bl 34 262143) HT_ ?_
   refine un_ 18 21 (bl 34 524287) HT_ ?_
   refine un_ 19 22 (bl 34 1048575) HT_ ?_
   refine un_ 20 23 (bl 34 2097151) HT_ ?_
   refine un_ 21 24 (bl 34 4194303) HT_ ?_
   refine un_ 22 25 (bl 34 8388607) HT_ ?_
   refine un_ 23 26 (bl 34 16777215) HT_ ?_
   refine pu_ 24 27 (bl 34 33554431) HT_ ?_
   refine pu_ 25 28 (bl 34 67108863) HT_ ?_
   refine un_ 26 29 (bl 34 134217727) HT_ ?_
   refine un_ 27 30 (bl 34 268435455) HT_ ?_
   refine un_ 28 31 (bl 34 536870911) HT_ ?_
   refine un_ 29 32 (bl 34 1073741823) HT_ ?_
   refine un_ 30 33 (bl 34 2147483647) HT_ ?_
   refine un_ 31 34 (bl 34 4294967295) HT_ ?_
   refine pu_ 32 35 (bl 34 8589934591) HT_ ?_
   refine pu_ 33 2 (bl 34 17179869183) HT_ ?_
   refine done_ (done_of HT_.out (by kernel_rfl)) ?_
   try go_wp2
   go_ret
   exact ⟨by first | rfl | (simp [errW_none, errW_some] <;> rfl) | (simp [*, errW_none, errW_some] <;> rfl), uH HB.out⟩
 ·replace c3 := Bool.eq_false_iff.mpr c3
  subst c3
  have H1 : (some false) = some r := by rw [if_neg (show ¬ (false = true) by decide)] at H; exact H
  clear H
  have H := H1
  clear H1
  obtain rfl := Option.some.inj H
  go_enter Try.func83, Try.ntmps83
  try go_wp2_with (first | ((with_reducible refine gate_dst (N := 1) rfl ?_); (try (refine gate_guard (by rfl) ?_; dsimp only)); refine bx 1 #[.int .i64 a0_0, .slice A0_1 l0_1.length c0_1, .slice A0_2 l0_2.length c0_2] 28 ?_; intro gb207 hg w31 hbox hb; have BK207 := zA (hbox); have GW207 := gq HB hg; have GE207 := gq HB hg; replace HB := xH HB hb; have := geI GE207; clear hb hbox hg))
  replace BK207 := zA (blk_drew BK207.out)
  replace HB := zA (below_drew1 HB.out)
  refine start_ (n := 34) (S := fun w' => w'.cell? ⟨gb207, 0, none⟩ = some (.int .i64 a0_0) ∧ w'.cell? ⟨gb207, 1, none⟩ = some (.slice A0_1 l0_1.length c0_1) ∧ w'.cell? ⟨gb207, 2, none⟩ = some (.slice A0_2 l0_2.length c0_2)) (ds := []) #[false, false, false, false, false, false, false, false, false, false, false, false, false, false, false, false, false, false, false, false, false, false, false, false, false, false, false, false, false, false, false, false, false, false] (by kernel_rfl) rfl rfl ⟨bcu BK207 0, bcu BK207 1, bcu BK207 2⟩ (fun hHeld => ?_); refine with_tabW impl_IsJacobi.tab1 impl_IsJacobi.bits1 (fun HT_ HW_ => ?_)
  generalize w31.drew = w32 at BK207 HB hHeld ⊢
  refine pu_ 0 3 (bl 34 1) HT_ ?_
  refine ta_ 1 4 (bl 34 3) HT_ HW_ hHeld ?_
  refine on_ 2 (some 5) (bl 34 7) HT_ (fun K hK => ?_)
  refine gS Try.func98 #[.int .i64 a0_0] ?_
  with_reducible refine (impl_IsPrime.calls k a0_0 false _ A2.out).mono ?_
  rintro e w' ⟨rfl, ⟨nd, rfl⟩⟩
  refine ⟨_, rfl, ?_⟩
  refine hK.out _ _ ⟨bcu BK207 0, bcu BK207 1, bcu BK207 2⟩ (fun hHeld => ?_)
  clear hK K
  refine no_ 5 ?_
  refine pu_ 3 6 (bl 34 15) HT_ ?_
  refine un_ 4 7 (bl 34 31) HT_ ?_
  refine un_ 5 8 (bl 34 63) HT_ ?_
  refine un_ 6 9 (bl 34 127) HT_ ?_
  refine pu_ 7 10 (bl 34 255) HT_ ?_
  refine pu_ 8 11 (bl 34 511) HT_ ?_
  refine un_ 9 12 (bl 34 1023) HT_ ?_
  refine un_ 10 13 (bl 34 2047) HT_ ?_
  refine un_ 11 14 (bl 34 4095) HT_ ?_
  refine un_ 12 15 (bl 34 8191) HT_ ?_
  refine un_ 13 16 (bl 34 16383) HT_ ?_
  refine un_ 14 17 (bl 34 32767) HT_ ?_
  refine un_ 15 18 (bl 34 65535) HT_ ?_
  refine pu_ 16 19 (bl 34 131071) HT_ ?_
  refine pu_ 17 20 (bl 34 262143) HT_ ?_
  refine un_ 18 21 (bl 34 524287) HT_ ?_
  refine un_ 19 22 (bl 34 1048575) HT_ ?_
  refine un_ 20 23 (bl 34 2097151) HT_ ?_
  refine un_ 21 24 (bl 34 4194303) HT_ ?_
  refine un_ 22 25 (bl 34 8388607) HT_ ?_
  refine un_ 23 26 (bl 34 16777215) HT_ ?_
  refine pu_ 24 27 (bl 34 33554431) HT_ ?_
  refine pu_ 25 28 (bl 34 67108863) HT_ ?_
  refine un_ 26 29 (bl 34 134217727) HT_ ?_
  refine un_ 27 30 (bl 34 268435455) HT_ ?_
  refine un_ 28 31 (bl 34 536870911) HT_ ?_
  refine un_ 29 32 (bl 34 1073741823) HT_ ?_
  refine un_ 30 33 (bl 34 2147483647) HT_ ?_
  refine un_ 31 34 (bl 34 4294967295) HT_ ?_
  refine pu_ 32 35 (bl 34 8589934591) HT_ ?_
  refine pu_ 33 2 (bl 34 17179869183) HT_ ?_
  refine done_ (done_of HT_.out (by kernel_rfl)) ?_
  try go_wp2
  go_ret
  exact ⟨by first | rfl | (simp [errW_none, errW_some] <;> rfl) | (simp [*, errW_none, errW_some] <;> rfl), uH HB.out⟩
/-! ### impl_jacobiCode: function 48 -/
def impl_jacobiCode.f (k : Nat) (a0_0 : Int) (l0_1 : List Int) (l0_2 : List Int) (a1 : Bool) : Option (Int) := (impl_IsJacobi.f k a0_0 l0_1 l0_2).bind fun t216 => (if t216 = true then (if a1 = true then (some 0) else (some 2)) else (some 1))
theorem impl_jacobiCode.mono : ∀ a0 a1 a2 a3 k, LeO (impl_jacobiCode.f k a0 a1 a2 a3) (impl_jacobiCode.f (k + 1) a0 a1 a2 a3) := by
 intro a0 a1 a2 a3 k
 unfold impl_jacobiCode.f
 repeat' first
   | (with_reducible exact impl_IsJacobi.mono _ _ _ _)
   | (with_reducible exact LeO.refl _)
   | (with_reducible exact LeO.none _)
   | (with_reducible refine LeO.ite ?_ ?_)
   | (with_reducible refine LeO.bind ?_ (fun _ => ?_))
   | exact impl_IsJacobi.mono _ _ _ _
   | exact LeO.none _
   | refine LeO.ite ?_ ?_
   | refine LeO.bind ?_ (fun _ => ?_)
set_option maxHeartbeats 8000000 in
set_option maxRecDepth 100000 in
theorem impl_jacobiCode.calls (k : Nat) (a0_0 : Int) (A0_1 : Option Addr) (c0_1 : Nat) (l0_1 : List Int) (A0_2 : Option Addr) (c0_2 : Nat) (l0_2 : List Int) (a1 : Bool) (r : Int) (w : World) (hr0_1 : Kd.C (Kd.int .i64) w A0_1 l0_1.length l0_1) (hc0_1 : l0_1.length ≤ c0_1) (hr0_2 : Kd.C (Kd.int .i64) w A0_2 l0_2.length l0_2) (hc0_2 : l0_2.length ≤ c0_2) (h : impl_jacobiCode.f k a0_0 l0_1 l0_2 a1 = some r) :
  Calls Try.prog 48 #[.agg #[.int .i64 a0_0, .slice A0_1 l0_1.length c0_1, .slice A0_2 l0_2.length c0_2], .bool a1] w fun e w' => e = .returned (.int .i64 r) ∧ Below w.heap.size w w' := by
 have hu28 := Try.underlying28
 have HR0_1 := zA hr0_1
 have HC0_1 := zA hc0_1
 clear hr0_1 hc0_1
 have HR0_2 := zA hr0_2
 have HC0_2 := zA hc0_2
 clear hr0_2 hc0_2
 have HB := zA (Below.refl w.heap.size w)
 have H : ((impl_IsJacobi.f k a0_0 l0_1 l0_2).bind fun t216 => (if t216 = true then (if a1 = true then (some 0) else (some 2)) else (some 1))) = some r := h
 clear h
 replace H := Option.bind_eq_some_iff.mp H
 obtain ⟨t216, A30, H⟩ := H
 replace H : (if t216 = true then (if a1 = true then (some 0) else (some 2)) else (some 1)) = some r := H
 have A3 := zA A30
 clear A30
 by_cases c4 : t216 = true
 ·subst c4
  have H1 : (if a1 = true then (some 0) else (some 2)) = some r := by rw [if_pos rfl] at H; exact H
  clear H
  have H := H1
  clear H1
  by_cases c5 : a1 = true
  ·subst c5
   have H1 : (some 0) = some r := by rw [if_pos rfl] at H; exact H
   clear H
   have H := H1
   clear H1
   obtain rfl := Option.some.inj H
   go_enter Try.func48, Try.ntmps48
   go_wp2_with (first | ((with_reducible refine gate_dst (N := 2) rfl ?_); refine bx 2 #[.int .i64 a0_0, .slice A0_1 l0_1.length c0_1, .slice A0_2 l0_2.length c0_2] 28 ?_; intro gb215 hg w6 hbox hb; have BK215 := zA (hbox); have GW215 := gq HB hg; have GE215 := gq HB hg; replace HB := xH HB hb; have := geI GE215; clear hb hbox hg; have hcz7_0 := bc BK215 0; have hcz7_1 := bc BK215 1; have hcz7_2 := bc BK215 2; have hfz7_0 := bf BK215 0; have hfz7_1 := bf BK215 1; have hfz7_2 := bf BK215 2) | ((with_reducible refine gate_callee (f := 83) rfl ?_); refine gL (some 7) Try.func83 #[.agg #[.int .i64 a0_0, .slice A0_1 l0_1.length c0_1, .slice A0_2 l0_2.length c0_2]] ?_; (with_reducible refine (impl_IsJacobi.calls k a0_0 _ _ l0_1 _ _ l0_2 true _ ?side1 ?side2 ?side3 ?side4 A3.out).mono ?_); (case side1 => exact uC ((Kd.C_below HR0_1.out HB.out))); (case side2 => exact HC0_1.out); (case side3 => exact uC ((Kd.C_below HR0_2.out HB.out))); (case side4 => exact HC0_2.out); rintro e w8 ⟨rfl, hb⟩; refine ⟨_, rfl, ?_⟩; replace BK215 := xB BK215 hb; replace HB := xH HB hb; (try clear hb); (try clear hb2); (try clear hk); (try clear hi)))
   go_ret
   exact ⟨by first | rfl | (simp [errW_none, errW_some] <;> rfl) | (simp [*, errW_none, errW_some] <;> rfl), uH HB.out⟩
  ·replace c5 := Bool.eq_false_iff.mpr c5
   subst c5
   have H1 : (some 2) = some r := by rw [if_neg (show ¬ (false = true) by decide)] at H; exact H
   clear H
   have H := H1
   clear H1
   obtain rfl := Option.some.inj H
   go_enter Try.func48, Try.ntmps48
   go_wp2_with (first | ((with_reducible refine gate_dst (N := 2) rfl ?_); refine bx 2 #[.int .i64 a0_0, .slice A0_1 l0_1.length c0_1, .slice A0_2 l0_2.length c0_2] 28 ?_; intro gb215 hg w9 hbox hb; have BK215 := zA (hbox); have GW215 := gq HB hg; have GE215 := gq HB hg; replace HB := xH HB hb; have := geI GE215; clear hb hbox hg; have hcz10_0 := bc BK215 0; have hcz10_1 := bc BK215 1; have hcz10_2 := bc BK215 2; have hfz10_0 := bf BK215 0; have hfz10_1 := bf BK215 1; have hfz10_2 := bf BK215 2) | ((with_reducible refine gate_callee (f := 83) rfl ?_); refine gL (some 7) Try.func83 #[.agg #[.int .i64 a0_0, .slice A0_1 l0_1.length c0_1, .slice A0_2 l0_2.length c0_2]] ?_; (with_reducible refine (impl_IsJacobi.calls k a0_0 _ _ l0_1 _ _ l0_2 true _ ?side1 ?side2 ?side3 ?side4 A3.out).mono ?_); (case side1 => exact uC ((Kd.C_below HR0_1.out HB.out))); (case side2 => exact HC0_1.out); (case side3 => exact uC ((Kd.C_below HR0_2.out HB.out))); (case side4 => exact HC0_2.out); rintro e w11 ⟨rfl, hb⟩; refine ⟨_, rfl, ?_⟩; replace BK215 := xB BK215 hb; replace HB := xH HB hb; (try clear hb); (try clear hb2); (try clear hk); (try clear hi)))
   go_ret
   exact ⟨by first | rfl | (simp [errW_none, errW_some] <;> rfl) | (simp [*, errW_none, errW_some] <;> rfl), uH HB.out⟩
 ·replace c4 := Bool.eq_false_iff.mpr c4
  subst c4
  have H1 : (some 1) = some r := by rw [if_neg (show ¬ (false = true) by decide)] at H; exact H
  clear H
  have H := H1
  clear H1
  obtain rfl := Option.some.inj H
  go_enter Try.func48, Try.ntmps48
  go_wp2_with (first | ((with_reducible refine gate_dst (N := 2) rfl ?_); refine bx 2 #[.int .i64 a0_0, .slice A0_1 l0_1.length c0_1, .slice A0_2 l0_2.length c0_2] 28 ?_; intro gb215 hg w12 hbox hb; have BK215 := zA (hbox); have GW215 := gq HB hg; have GE215 := gq HB hg; replace HB := xH HB hb; have := geI GE215; clear hb hbox hg; have hcz13_0 := bc BK215 0; have hcz13_1 := bc BK215 1; have hcz13_2 := bc BK215 2; have hfz13_0 := bf BK215 0; have hfz13_1 := bf BK215 1; have hfz13_2 := bf BK215 2) | ((with_reducible refine gate_callee (f := 83) rfl ?_); refine gL (some 7) Try.func83 #[.agg #[.int .i64 a0_0, .slice A0_1 l0_1.length c0_1, .slice A0_2 l0_2.length c0_2]] ?_; (with_reducible refine (impl_IsJacobi.calls k a0_0 _ _ l0_1 _ _ l0_2 false _ ?side1 ?side2 ?side3 ?side4 A3.out).mono ?_); (case side1 => exact uC ((Kd.C_below HR0_1.out HB.out))); (case side2 => exact HC0_1.out); (case side3 => exact uC ((Kd.C_below HR0_2.out HB.out))); (case side4 => exact HC0_2.out); rintro e w14 ⟨rfl, hb⟩; refine ⟨_, rfl, ?_⟩; replace BK215 := xB BK215 hb; replace HB := xH HB hb; (try clear hb); (try clear hb2); (try clear hk); (try clear hi)))
  go_ret
  exact ⟨by first | rfl | (simp [errW_none, errW_some] <;> rfl) | (simp [*, errW_none, errW_some] <;> rfl), uH HB.out⟩
/-! ### impl_trimmed: function 115 -/
def impl_trimmed.l0 : Nat → List Int → Option (List Int)
 | 0, _ => none
 | k + 1, x0 => if (x0.length : Int) > 0 then (if 0 ≤ (wrap64 ((x0.length : Int) - 1)) then (if (wrap64 ((x0.length : Int) - 1)) < (x0.length : Int) then (if (rd x0 (wrap64 ((x0.length : Int) - 1))) = 0 then (if (wrap64 ((x0.length : Int) - 1)) ≤ (x0.length : Int) then (impl_trimmed.l0 k (x0.take ((wrap64 ((x0.length : Int) - 1)) : Int).toNat)) else (none)) else (some x0)) else (none)) else (none)) else (some x0)
def impl_trimmed.f (k : Nat) (l0 : List Int) : Option (List Int) := impl_trimmed.l0 k l0
theorem impl_trimmed.mono_l : ∀ k, (∀ y0, LeO (impl_trimmed.l0 k y0) (impl_trimmed.l0 (k + 1) y0))
 | 0 => fun _ r h => by simp [impl_trimmed.l0] at h
 | k + 1 => by
  have ih0 := impl_trimmed.mono_l k
  ·intro y0
   unfold impl_trimmed.l0
   repeat' first
   | (with_reducible exact ih0 _)
   | (with_reducible exact LeO.refl _)
   | (with_reducible exact LeO.none _)
   | (with_reducible refine LeO.ite ?_ ?_)
   | (with_reducible refine LeO.bind ?_ (fun _ => ?_))
   | exact ih0 _
   | exact LeO.none _
   | refine LeO.ite ?_ ?_
   | refine LeO.bind ?_ (fun _ => ?_)
theorem impl_trimmed.mono : ∀ a0 k, LeO (impl_trimmed.f k a0) (impl_trimmed.f (k + 1) a0) := by
 intro a0 k
 have ih0 := impl_trimmed.mono_l k
 unfold impl_trimmed.f
 repeat' first
   | (with_reducible exact ih0 _)
   | (with_reducible exact LeO.refl _)
   | (with_reducible exact LeO.none _)
   | (with_reducible refine LeO.ite ?_ ?_)
   | (with_reducible refine LeO.bind ?_ (fun _ => ?_))
   | exact ih0 _
   | exact LeO.none _
   | refine LeO.ite ?_ ?_
   | refine LeO.bind ?_ (fun _ => ?_)
set_option maxHeartbeats 8000000 in
set_option maxRecDepth 100000 in
theorem impl_trimmed.calls (k : Nat) (P0_ : Nat → Prop) (u9000_ : Value) (l0 : List Int) (r : List Int) (w0 w : World) (hB : Below w0.heap.size w0 w) (ho0 : Kd.R (Kd.int .i64) 2 w w0.heap.size P0_ u9000_ l0) (h : impl_trimmed.f k l0 = some r) :
  Calls Try.prog 115 #[u9000_] w fun e w' => ∃ v0_ : Value, e = .returned (v0_) ∧ Kd.R (Kd.int .i64) 2 w' w0.heap.size (fun k_ => (P0_ k_ ∨ w.heap.size ≤ k_)) v0_ r ∧ Below w0.heap.size w0 w' ∧ Kept w w' (fun k_ => P0_ k_) := by
 have HO0 := zA (show Kd.R (Kd.int .i64) 2 w w0.heap.size (fun k_ => (P0_ k_ ∨ w.heap.size ≤ k_)) u9000_ l0 from Kd.R_mono ho0 (fun k_ hk => (.inl hk)))
 have HK := zA (Kept.refl w (fun k_ => P0_ k_))
 have HW0 := zA hB.size
 have HB := zA hB
 clear hB
 have H : (impl_trimmed.l0 k l0) = some r := h
 clear h
 have H' := zA H
 clear H
 go_enter Try.func115, Try.ntmps115
 go_wp2
 go_loopg [0] k (fun kq v0 w' => ∃ (x0_1 : List Int), Aside0 (impl_trimmed.l0 kq x0_1 = some r) ∧ Aside0 (kq ≤ k) ∧ Aside0 (Kd.R (Kd.int .i64) 2 w' w0.heap.size (fun k_ => (P0_ k_ ∨ w.heap.size ≤ k_)) v0 x0_1) ∧ Aside0 (Kept w w' (fun k_ => P0_ k_)) ∧ Aside0 (Below w0.heap.size w0 w'))
 case atStart => exact ⟨(l0), H', ⟨Nat.le_refl _⟩, ⟨uR HO0.out⟩, ⟨by repeat (first | (with_reducible first | exact HK.out | apply Kept.alloc | apply Kept.drewN | apply Kept.drew) | exact HK.out)⟩, ⟨uH HB.out⟩⟩
 case round =>
  clear H'
  try clear c1
  obtain ⟨x0_1, HA, HK1, HO_0, HK, HB⟩ := hrel
  cases gk with
  | zero => exact absurd HA.out (by simp [impl_trimmed.l0])
  | succ k1 =>
   have H := HA.out
   clear HA
   simp only [impl_trimmed.l0] at H
   by_cases c2 : (x0_1.length : Int) > 0
   rotate_left
   ·rw [if_neg c2] at H
    have c2b0 : decide (0 < (x0_1.length : Int)) = false := decide_eq_false c2
    have c2b1 : decide (0 < x0_1.length) = false := decide_eq_false (by omega)
    clear c2
    obtain rfl := Option.some.inj H
    obtain ⟨Ao11, co11, eo11⟩ := Kd.R_slice HO_0.out
    subst eo11
    go_wp2
    go_ret
    exact ⟨_, by first | rfl | (simp [errW_none, errW_some] <;> rfl) | (simp [*, errW_none, errW_some] <;> rfl), uR HO_0.out, uH HB.out, by repeat (first | (with_reducible first | exact HK.out | apply Kept.alloc | apply Kept.drewN | apply Kept.drew) | exact HK.out)⟩

   rw [if_pos c2] at H
   have c2b0 : decide (0 < (x0_1.length : Int)) = true := decide_eq_true c2
   have c2b1 : decide (0 < x0_1.length) = true := decide_eq_true (by omega)
   clear c2
   obtain ⟨ji3, hji3⟩ : ∃ j_ : Int, (wrap64 ((x0_1.length : Int) - 1)) = j_ := ⟨_, rfl⟩
   replace H : (if 0 ≤ (ji3) then (if (ji3) < (x0_1.length : Int) then (if (rd x0_1 (ji3)) = 0 then (if (ji3) ≤ (x0_1.length : Int) then (impl_trimmed.l0 k1 (x0_1.take ((ji3) : Int).toNat)) else (none)) else (some x0_1)) else (none)) else (none)) = some r := by first | (rw [hji3] at H; exact H) | (simp only [hji3] at H ⊢; exact H)
   have hji3w : (IntKind.i64.wrap ((x0_1.length : Int) - 1)) = ji3 := (i64_w _).trans hji3
   by_cases c4 : 0 ≤ (ji3)
   rotate_left
   ·rw [if_neg c4] at H
    exact absurd H (by simp)
   rw [if_pos c4] at H
   have c4b0 : decide (0 ≤ (ji3)) = true := decide_eq_true c4
   clear c4
   by_cases c5 : (ji3) < (x0_1.length : Int)
   rotate_left
   ·rw [if_neg c5] at H
    exact absurd H (by simp)
   rw [if_pos c5] at H
   have c5b0 : decide ((ji3) < (x0_1.length : Int)) = true := decide_eq_true c5
   clear c5
   by_cases c6 : (rd x0_1 (ji3)) = 0
   rotate_left
   ·rw [if_neg c6] at H
    have c6b0 : ((rd x0_1 (ji3)) == 0) = false := beq_eq_false_iff_ne.mpr c6
    have c6b1 : ((rd x0_1 (ji3)) != 0) = true := bne_iff_ne.mpr c6
    obtain rfl := Option.some.inj H
    obtain ⟨Ao10, co10, eo10⟩ := Kd.R_slice HO_0.out
    subst eo10
    have p217 : 0 ≤ ((ji3) : Int) := of_decide_eq_true (by first | (with_reducible assumption) | assumption)
    have q217 : (ji3) < (x0_1.length : Int) := of_decide_eq_true (by first | (with_reducible assumption) | assumption)
    obtain ⟨ad217, e217, hx217_0⟩ := Kd.at_int (Kd.R_reads' HO_0.out).2.2 (ji3) p217 q217
    cases e217
    replace p217 := eq_true p217
    replace q217 := eq_true q217
    go_wp2
    go_ret
    exact ⟨_, by first | rfl | (simp [errW_none, errW_some] <;> rfl) | (simp only [← hji3]; first | rfl | (simp [errW_none, errW_some] <;> rfl)) | (simp [*, errW_none, errW_some] <;> rfl), uR HO_0.out, uH HB.out, by repeat (first | (with_reducible first | exact HK.out | apply Kept.alloc | apply Kept.drewN | apply Kept.drew) | exact HK.out)⟩
   rw [if_pos c6] at H
   have c6b0 : ((rd x0_1 (ji3)) == 0) = true := beq_iff_eq.mpr c6
   have c6b1 : ((rd x0_1 (ji3)) != 0) = false := bne_eq_false_iff_eq.mpr c6
   clear c6
   by_cases c7 : (ji3) ≤ (x0_1.length : Int)
   rotate_left
   ·rw [if_neg c7] at H
    exact absurd H (by simp)
   rw [if_pos c7] at H
   have c7b0 := eq_true c7
   have c7b1 : decide ((ji3) ≤ (x0_1.length : Int)) = true := decide_eq_true c7
   clear c7
   obtain ⟨y218, hy218⟩ : ∃ y_ : List Int, y_ = (x0_1.take ((ji3) : Int).toNat) := ⟨_, rfl⟩
   replace H : (impl_trimmed.l0 k1 y218) = some r := by first | (rw [hy218]; exact H) | exact H
   have Ny218 := zA hy218
   clear hy218
   have H' := zA H
   clear H
   obtain ⟨Ao8, co8, eo8⟩ := Kd.R_slice HO_0.out
   subst eo8
   have p217 : 0 ≤ ((ji3) : Int) := of_decide_eq_true (by first | (with_reducible assumption) | assumption)
   have q217 : (ji3) < (x0_1.length : Int) := of_decide_eq_true (by first | (with_reducible assumption) | assumption)
   obtain ⟨ad217, e217, hx217_0⟩ := Kd.at_int (Kd.R_reads' HO_0.out).2.2 (ji3) p217 q217
   cases e217
   replace p217 := eq_true p217
   replace q217 := eq_true q217
   have q9 : ((ji3) : Int) ≤ ((x0_1.length : Int) : Int) := of_decide_eq_true (by first | (with_reducible assumption) | assumption)
   obtain ⟨i09, hi09, _, hsz9, _⟩ := info_parts info2
   have hcut9 := cut_to (P := Try.prog) 22 2 .i64 Try.underlying22 hi09 (some ad217) x0_1.length co8 (ji3) (of_decide_eq_true (by first | (with_reducible assumption) | assumption)) q9 (Kd.R_reads' HO_0.out).2.1
   have hr9 := Kd.R_take (m := ((ji3) : Int).toNat) HO_0.out (by omega)
   have hy9 : y218.length = ((ji3) : Int).toNat := (by rw [Ny218.out, List.length_take]; omega)
   rw [← Ny218.out] at hr9
   rw [← hy9] at hr9 hcut9
   clear hy9 hi09 hsz9 HO_0
   have HO220 := zA hr9
   clear hr9
   replace q9 := eq_true q9
   go_wp2
   go_roundg k1
   case measure => have := HK1.out; omega
   case rel => exact ⟨(y218), H', ⟨by have := HK1.out; omega⟩, ⟨uR HO220.out⟩, ⟨by repeat (first | (with_reducible first | exact HK.out | apply Kept.alloc | apply Kept.drewN | apply Kept.drew) | exact HK.out)⟩, ⟨uH HB.out⟩⟩
/-! ### impl_field_add: function 108 -/
def impl_field_add.l0 : Nat → Int → Int → List Int → List Int → Int → Int → Option (List Int)
 | 0, _, _, _, _, _, _ => none
 | k + 1, x0, x3, x9, x21, x22, x23 => if x23 < x22 then (if 0 ≤ x23 then (if x23 < (x21.length : Int) then (if x23 < (x9.length : Int) then ((impl_field_mod.f x0 (wrap64 ((rd x9 x23) + (wrap64 (x3 * (rd x21 x23)))))).bind fun t229 => (impl_field_add.l0 k x0 x3 (x9.set (x23 : Int).toNat t229) x21 x22 (wrap64 (x23 + 1)))) else (none)) else (none)) else (none)) else ((impl_trimmed.f k x9).bind fun t231 => (some t231))
def impl_field_add.f (k : Nat) (a0 : Int) (l1 : List Int) (l2 : List Int) (a3 : Int) : Option (List Int) := if 0 ≤ (mx (l1.length : Int) (l2.length : Int)) then (if (mx (l1.length : Int) (l2.length : Int) : Int).toNat ≤ 35184372088832 then (impl_field_add.l0 k a0 a3 (cpy (List.replicate (mx (l1.length : Int) (l2.length : Int) : Int).toNat 0) l1) l2 (l2.length : Int) 0) else (none)) else (none)
theorem impl_field_add.mono_l : ∀ k, (∀ y0 y1 y2 y3 y4 y5, LeO (impl_field_add.l0 k y0 y1 y2 y3 y4 y5) (impl_field_add.l0 (k + 1) y0 y1 y2 y3 y4 y5))
 | 0 => fun _ _ _ _ _ _ r h => by simp [impl_field_add.l0] at h
 | k + 1 => by
  have ih0 := impl_field_add.mono_l k
  ·intro y0 y1 y2 y3 y4 y5
   unfold impl_field_add.l0
   repeat' first
   | (with_reducible exact ih0 _ _ _ _ _ _)
   | (with_reducible exact impl_trimmed.mono _ _)
   | (with_reducible exact LeO.refl _)
   | (with_reducible exact LeO.none _)
   | (with_reducible refine LeO.ite ?_ ?_)
   | (with_reducible refine LeO.bind ?_ (fun _ => ?_))
   | exact ih0 _ _ _ _ _ _
   | exact impl_trimmed.mono _ _
   | exact LeO.none _
   | refine LeO.ite ?_ ?_
   | refine LeO.bind ?_ (fun _ => ?_)
theorem impl_field_add.mono : ∀ a0 a1 a2 a3 k, LeO (impl_field_add.f k a0 a1 a2 a3) (impl_field_add.f (k + 1) a0 a1 a2 a3) := by
 intro a0 a1 a2 a3 k
 have ih0 := impl_field_add.mono_l k
 unfold impl_field_add.f
 repeat' first
   | (with_reducible exact ih0 _ _ _ _ _ _)
   | (with_reducible exact impl_trimmed.mono _ _)
   | (with_reducible exact LeO.refl _)
   | (with_reducible exact LeO.none _)
   | (with_reducible refine LeO.ite ?_ ?_)
   | (with_reducible refine LeO.bind ?_ (fun _ => ?_))
   | exact ih0 _ _ _ _ _ _
   | exact impl_trimmed.mono _ _
   | exact LeO.none _
   | refine LeO.ite ?_ ?_
   | refine LeO.bind ?_ (fun _ => ?_)
set_option maxHeartbeats 8000000 in
set_option maxRecDepth 100000 in
theorem impl_field_add.calls (k : Nat) (a0 : Int) (A1 : Option Addr) (c1 : Nat) (l1 : List Int) (A2 : Option Addr) (c2 : Nat) (l2 : List Int) (a3 : Int) (r : List Int) (w : World) (hr1 : Kd.C (Kd.int .i64) w A1 l1.length l1) (hc1 : l1.length ≤ c1) (hr2 : Kd.C (Kd.int .i64) w A2 l2.length l2) (hc2 : l2.length ≤ c2) (h : impl_field_add.f k a0 l1 l2 a3 = some r) :
  Calls Try.prog 108 #[.int .i64 a0, .slice A1 l1.length c1, .slice A2 l2.length c2, .int .i64 a3] w fun e w' => ∃ v0_ : Value, e = .returned (v0_) ∧ Kd.R (Kd.int .i64) 2 w' w.heap.size (fun _ => True) v0_ r ∧ Below w.heap.size w w' := by
 have HR1 := zA hr1
 have HC1 := zA hc1
 clear hr1 hc1
 have HR2 := zA hr2
 have HC2 := zA hc2
 clear hr2 hc2
 have HB := zA (Below.refl w.heap.size w)
 have H : (if 0 ≤ (mx (l1.length : Int) (l2.length : Int)) then (if (mx (l1.length : Int) (l2.length : Int) : Int).toNat ≤ 35184372088832 then (impl_field_add.l0 k a0 a3 (cpy (List.replicate (mx (l1.length : Int) (l2.length : Int) : Int).toNat 0) l1) l2 (l2.length : Int) 0) else (none)) else (none)) = some r := h
 clear h
 obtain ⟨ji5, hji5⟩ : ∃ j_ : Int, (mx (l1.length : Int) (l2.length : Int)) = j_ := ⟨_, rfl⟩
 replace H : (if 0 ≤ (ji5) then (if (ji5 : Int).toNat ≤ 35184372088832 then (impl_field_add.l0 k a0 a3 (cpy (List.replicate (ji5 : Int).toNat 0) l1) l2 (l2.length : Int) 0) else (none)) else (none)) = some r := by first | (rw [hji5] at H; exact H) | (simp only [hji5] at H ⊢; exact H)
 (try (have hji5l : 0 ≤ ji5 := by (rw [← hji5]; unfold mx; (repeat' split) <;> omega)))
 (try (have hji5m : 0 ≤ ji5 := by omega))
 have hji5_ : (if (l1.length : Int) < (l2.length : Int) then (l2.length : Int) else (l1.length : Int)) = ji5 := hji5
 (try (have hji5n : (if l1.length < l2.length then (l2.length : Int) else (l1.length : Int)) = ji5 := by have h_ := hji5_; simpa only [Int.ofNat_lt] using h_))
 by_cases c6 : 0 ≤ (ji5)
 rotate_left
 ·rw [if_neg c6] at H
  exact absurd H (by simp)

 rw [if_pos c6] at H
 have c6b0 := eq_true c6
 have c6b1 : decide (0 ≤ (ji5)) = true := decide_eq_true c6
 clear c6
 by_cases c7 : (ji5 : Int).toNat ≤ 35184372088832
 rotate_left
 ·rw [if_neg c7] at H
  exact absurd H (by simp)
 rw [if_pos c7] at H
 have c7b0 := eq_true c7
 have c7b1 : decide ((ji5 : Int).toNat ≤ 35184372088832) = true := decide_eq_true c7
 clear c7
 obtain ⟨y221, hy221⟩ : ∃ y_ : List Int, y_ = (List.replicate (ji5 : Int).toNat 0) := ⟨_, rfl⟩
 replace H : (impl_field_add.l0 k a0 a3 (cpy y221 l1) l2 (l2.length : Int) 0) = some r := by first | (rw [hy221]; exact H) | exact H
 have Ny221 := zA hy221
 clear hy221
 obtain ⟨y224, hy224⟩ : ∃ y_ : List Int, y_ = (cpy y221 l1) := ⟨_, rfl⟩
 replace H : (impl_field_add.l0 k a0 a3 y224 l2 (l2.length : Int) 0) = some r := by first | (rw [hy224]; exact H) | exact H
 have Ny224 := zA hy224
 clear hy224
 have H' := zA H
 clear H
 go_enter Try.func108, Try.ntmps108
 go_wp2_with (first | ((with_reducible refine gate_dst (N := 17) rfl ?_); refine Kd.R_make (Kd.int .i64) _ 2 rfl (N := 17) rfl 22 _ _ rfl ji5 rfl rfl Try.underlying22 (.int .i64 0) 8 info2 rfl (by decide) (by omega) 0 (ok := fun _ => True) (okp := fun _ => True) rfl (fun _ hk => hk) trivial (of_decide_eq_true (by first | (with_reducible assumption) | assumption)) (Nat.le_trans (Nat.mul_le_mul_right _ (of_decide_eq_true (by first | (with_reducible assumption) | assumption) : ji5.toNat ≤ 35184372088832)) (by omega)) (Below.refl _ _) (Nat.le_refl _) ?_; intro v222 w8 ho9 hb hg_ hnew_; clear hg_ hnew_; (first | rw [← Ny221.out] at ho9 | (simp only [Int.reduceToNat] at ho9; rw [← Ny221.out] at ho9)); have HO223 := zA (Kd.R_lower ho9 (below_size (uH HB.out))); replace HB := xH HB hb; clear hb ho9) | ((with_reducible refine gate_builtin (b := .copy) (xs := #[.tmp 18, .tmp 19]) rfl ?_); skip; refine R_copy_int (k := .i64) (w0 := w) w.heap.size ?g1 (.tmp 18) (.tmp 19) 22 22 2 ?g2 ?g3 (.int .i64 0) 8 ?g4 v222 y221 l1 ?g5 ?g6 ?g7 (fun _ => True) ?g8 ?g9 ?aO ?aR ?aB ?aS ?_; (case g1 => rfl); (case g2 => rfl); (case g3 => exact Try.underlying22); (case g4 => exact info2); (case g8 => rfl); (case g9 => rfl); (case aR => exact uC ((Kd.C_below HR1.out HB.out))); (case aB => exact (uH HB.out)); (case aO => exact (uR HO223.out)); (case aS => exact (below_size (uH HB.out))); skip; intro w10 ho hb hg hat; rw [← Ny224.out] at ho; replace HB := zA (hb); have HO226 := zA (ho); clear HO223 ho hb hg hat))
 go_loopg [23] k (fun kq v23 w' => ∃ (x9_1 : List Int) (x23_1 : Int), v23 = .int .i64 x23_1 ∧ Aside0 (impl_field_add.l0 kq a0 a3 x9_1 l2 (l2.length : Int) x23_1 = some r) ∧ Aside0 (kq ≤ k) ∧ Aside0 (Kd.R (Kd.int .i64) 2 w' w.heap.size (fun _ => True) v222 x9_1) ∧ Aside0 (Below w.heap.size w w'))
 case atStart => exact ⟨(y224), (0), (by first | rfl | (simp; done) | (simp [*]; done)), H', ⟨Nat.le_refl _⟩, ⟨uR HO226.out⟩, ⟨uH HB.out⟩⟩
 case round =>
  clear H'
  (try clear c1);(try clear c2);(try clear p2);(try clear c6);(try clear c6b0);(try clear c6b1);(try clear c7);(try clear c7b0);(try clear c7b1);(try clear c10)
  obtain ⟨x9_1, x23_1, rfl, HA, HK1, HO_9, HB⟩ := hrel
  cases gk with
  | zero => exact absurd HA.out (by simp [impl_field_add.l0])
  | succ k1 =>
   have H := HA.out
   clear HA
   simp only [impl_field_add.l0] at H
   by_cases c11 : x23_1 < (l2.length : Int)
   rotate_left
   ·rw [if_neg c11] at H
    have c11b0 : decide (x23_1 < (l2.length : Int)) = false := decide_eq_false c11
    clear c11
    replace H := Option.bind_eq_some_iff.mp H
    obtain ⟨t231, A200, H⟩ := H
    replace H : (some t231) = some r := H
    have A20 := zA A200
    clear A200
    obtain rfl := Option.some.inj H
    obtain ⟨Ao21, co21, eo21⟩ := Kd.R_slice HO_9.out
    subst eo21
    go_wp2_with (first | ((with_reducible refine gate_callee (f := 115) rfl ?_); refine gL (some 43) Try.func115 #[.slice Ao21 x9_1.length co21] ?_; (with_reducible refine (impl_trimmed.calls k1 (fun k_ => some k_ = (.slice Ao21 x9_1.length co21 : Value).ownBlock) (.slice Ao21 x9_1.length co21) x9_1 t231 w _ ?side1 ?side2 A20.out).mono ?_); (case side1 => repeat (first | (with_reducible first | exact HB.out | apply below_alloc | apply pw_below_drewN | apply below_drew1) | exact HB.out)); (case side2 => exact Kd.R_tight rfl HO_9.out); rintro e w22 ⟨v232, rfl, ho0, hb, hkp⟩; refine ⟨_, rfl, ?_⟩; have HO233 := zA (Kd.R_mono (ok' := fun k_ => True) ho0 (fun k_ hk_ => trivial)); replace HB := zA (hb); clear HO_9; (try clear hb); (try clear hkp); (try clear ho0)))
    go_ret
    exact ⟨_, by first | rfl | (simp [errW_none, errW_some] <;> rfl) | (simp only [← hji5]; first | rfl | (simp [errW_none, errW_some] <;> rfl)) | (simp [*, errW_none, errW_some] <;> rfl), uR HO233.out, uH HB.out⟩
   rw [if_pos c11] at H
   have c11b0 : decide (x23_1 < (l2.length : Int)) = true := decide_eq_true c11
   clear c11
   by_cases c12 : 0 ≤ x23_1
   rotate_left
   ·rw [if_neg c12] at H
    exact absurd H (by simp)
   rw [if_pos c12] at H
   have c12b0 : decide (0 ≤ x23_1) = true := decide_eq_true c12
   clear c12
   by_cases c13 : x23_1 < (l2.length : Int)
   rotate_left
   ·rw [if_neg c13] at H
    exact absurd H (by simp)
   rw [if_pos c13] at H
   have c13b0 : decide (x23_1 < (l2.length : Int)) = true := decide_eq_true c13
   clear c13
   by_cases c14 : x23_1 < (x9_1.length : Int)
   rotate_left
   ·rw [if_neg c14] at H
    exact absurd H (by simp)
   rw [if_pos c14] at H
   have c14b0 : decide (x23_1 < (x9_1.length : Int)) = true := decide_eq_true c14
   clear c14
   replace H := Option.bind_eq_some_iff.mp H
   obtain ⟨t229, A150, H⟩ := H
   replace H : (impl_field_add.l0 k1 a0 a3 (x9_1.set (x23_1 : Int).toNat t229) l2 (l2.length : Int) (wrap64 (x23_1 + 1))) = some r := H
   have A15 := zA A150
   clear A150
   obtain ⟨y230, hy230⟩ : ∃ y_ : List Int, y_ = (x9_1.set (x23_1 : Int).toNat t229) := ⟨_, rfl⟩
   replace H : (impl_field_add.l0 k1 a0 a3 y230 l2 (l2.length : Int) (wrap64 (x23_1 + 1))) = some r := by first | (rw [hy230]; exact H) | exact H
   have Ny230 := zA hy230
   clear hy230
   have H' := zA H
   clear H
   have p227 : 0 ≤ (x23_1 : Int) := of_decide_eq_true (by first | (with_reducible assumption) | assumption)
   have q227 : x23_1 < (l2.length : Int) := of_decide_eq_true (by first | (with_reducible assumption) | assumption)
   obtain ⟨ad227, e227, hx227_0⟩ := Kd.at_int HR2.out x23_1 p227 q227
   cases e227
   replace hx227_0 := hc HB hx227_0
   replace p227 := eq_true p227
   replace q227 := eq_true q227
   obtain ⟨Ao17, co17, eo17⟩ := Kd.R_slice HO_9.out
   subst eo17
   have p228 : 0 ≤ (x23_1 : Int) := of_decide_eq_true (by first | (with_reducible assumption) | assumption)
   have q228 : x23_1 < (x9_1.length : Int) := of_decide_eq_true (by first | (with_reducible assumption) | assumption)
   obtain ⟨ad228, e228, hx228_0⟩ := Kd.at_int (Kd.R_reads' HO_9.out).2.2 x23_1 p228 q228
   cases e228
   replace p228 := eq_true p228
   replace q228 := eq_true q228
   go_wp2_with (first | ((with_reducible refine gate_callee (f := 101) rfl ?_); refine gL (some 39) Try.func101 #[.int .i64 a0, .int .i64 (wrap64 ((rd x9_1 x23_1) + (wrap64 (a3 * (rd l2 x23_1)))))] ?_; (with_reducible refine (impl_field_mod.calls a0 (wrap64 ((rd x9_1 x23_1) + (wrap64 (a3 * (rd l2 x23_1))))) t229 _ A15.out).mono ?_); rintro e w' ⟨rfl, ⟨nd, rfl⟩⟩; refine ⟨_, rfl, ?_⟩; (try (rw [drewN_self wr]; generalize hq_ : World.drewN wr _ = wr; have n0_ : Aside0 (Kd.R (Kd.int .i64) 2 wr w.heap.size (fun _ => True) (.slice (some ad228) x9_1.length co17) x9_1) := ⟨by rw [← hq_]; exact (uR HO_9.out)⟩; have n1_ : Aside0 (Below w.heap.size w wr) := ⟨by rw [← hq_]; exact (uH HB.out)⟩; clear HO_9 HB hq_; have HO_9 := n0_; have HB := n1_; clear n0_ n1_)); have p16 : 0 ≤ (x23_1 : Int) := of_decide_eq_true (by first | (with_reducible assumption) | assumption); have q16 : (x23_1 : Int) < ((x9_1.length : Int) : Int) := of_decide_eq_true (by first | (with_reducible assumption) | assumption); obtain ⟨go16, co16, eo16, gb16, gl16, cl16, HG16⟩ := Kd.R_form HO_9.out (by omega); (first | cases eo16 | (injection eo16 with ea_ en_ ec_; (first | subst ea_ | (injection ea_ with ea_; subst ea_)); subst ec_; clear en_)); have GB16 := zA gb16; have := geI GB16; have GG16 := zA HG16; clear gb16 gl16 HG16; (first | simp only [add_plain] at hx228_0 | skip); obtain ⟨hx16_0, hf16_0⟩ := Kd.R_celln 0 HO_9.out (x23_1 : Int) p16 q16; replace p16 := eq_true p16; replace q16 := eq_true q16; obtain ⟨hy18_, hz18_⟩ := Kd.R_celln 0 HO_9.out (x23_1 : Int) (of_decide_eq_true (by first | (with_reducible assumption) | assumption)) (of_decide_eq_true (by first | (with_reducible assumption) | assumption)); have HP18 := Kd.R_putg HO_9.out (x23_1 : Int) t229) | ((with_reducible refine gate_store (t := 2) (p := 40) rfl ?_); refine store_event (t := 2) (p := 40) (v := ?vo_w19) (w1 := (wr.setCell ⟨go16, (x23_1 : Int).toNat, none⟩ (.int .i64 t229))) ?hg ?ho ?hn ?hr ?_; (case ho => rfl); (case hg => rfl); (case hn => rfl); (case hr => first | (go_simp; done) | (go_simp; rfl)); intro w19 hw; have hg : wr.grownBy w19 (some go16) := (by rw [hw]; exact HP18.2); have hp_ : Kd.R (Kd.int .i64) 2 w19 w.heap.size (fun _ => True) (.slice (some ⟨go16, 0, none⟩) x9_1.length co17) y230 := (by rw [hw, Ny230.out]; exact HP18.1); clear HP18; replace HO_9 := zA (hp_); replace HB := zA ((by rw [hw]; exact below_set (HB.out) GB16.out : Below w.heap.size w w19)); clear hg hw hp_))
   go_roundg k1
   case measure => have := HK1.out; omega
   case rel => exact ⟨(y230), (wrap64 (x23_1 + 1)), (by first | rfl | (simp; done) | (simp [*]; done)), H', ⟨by have := HK1.out; omega⟩, ⟨uR HO_9.out⟩, ⟨uH HB.out⟩⟩
end Go.Proofs.Ytijkfbnjcebfaaa.Pr
