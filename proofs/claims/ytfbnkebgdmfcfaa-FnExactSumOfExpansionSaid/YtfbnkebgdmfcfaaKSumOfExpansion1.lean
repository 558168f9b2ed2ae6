/- Texts of this session in one: what functions of the program compute, and plain facts of it, under the conditions that each theorem names. -/
import Derived.Test.YtfbnkebgdmfcfaaKFspecl04Polys
import Derived.Test.YtfbnkebgdmfcfaaKC01
import Derived.Test.YtfbnkebgdmfcfaaKC04
import Derived.Test.YtfbnkebgdmfcfaaKC05
import Derived.Test.YtfbnkebgdmfcfaaKC08
namespace Go.Proofs.Ytfbnkebgdmfcfaa.Pr
open Go.RowKit Go.Proofs.YtfbnkebgdmfcfaaW.PrintWords Go.Proofs.YtfbnkebgdmfcfaaW.PrintLast Go.Proofs.YtfbnkebgdmfcfaaW.PrintMore
attribute [local go_sem] max2_int min2_int max_two min_two max_three min_three max_four min_four   -- for this text's walks alone
set_option linter.unusedVariables false
set_option linter.unusedSimpArgs false
/-! ### impl_SumOfExpansion_1: function 97 -/
def impl_SumOfExpansion_1.f (l0_0 : List Int) (a1_0 : Int) (l1_1 : List Int) : Option (Bool) := if (l0_0.length : Int) ≤ 12 then ((impl_Moments_field.f a1_0 l1_1).bind fun t594 => ((impl_areAll_int64.f l0_0 (fun z_ => impl_field_has.f t594 z_)).bind fun t595 => (some t595))) else (some false)
def impl_SumOfExpansion_1.T1 : Bool × List (List Nat × List Nat) := (true, [([], []), ([0], [0]), ([1], [1]), ([2], [2]), ([3], [3]), ([3], [3]), ([5, 3, 3], [3, 5]), ([6, 3], [3, 6]), ([4, 7, 6, 3], [3, 4, 7]), ([3, 8], [3, 8]), ([9, 8, 0, 1, 2, 3, 4, 5, 6, 7, 8, 9], [9])])
def impl_SumOfExpansion_1.B1 : List Nat := [0, 1, 3, 7, 15, 15, 47, 111, 255, 511, 1023]
theorem impl_SumOfExpansion_1.tab1 : rtab .any (opsOf Try.f97 1) = impl_SumOfExpansion_1.T1 := by kernel_rfl
theorem impl_SumOfExpansion_1.bits1 : waitsOk impl_SumOfExpansion_1.T1.2 impl_SumOfExpansion_1.B1 = true := by kernel_rfl
set_option maxHeartbeats 8000000 in
set_option maxRecDepth 100000 in
theorem impl_SumOfExpansion_1.calls (gc0 : Nat) (A0_0 : Option Addr) (c0_0 : Nat) (l0_0 : List Int) (gc1 : Nat) (a1_0 : Int) (A1_1 : Option Addr) (c1_1 : Nat) (l1_1 : List Int) (r : Bool) (w : World) (hb0 : w.heap[gc0]? = some (.cells #[.slice A0_0 l0_0.length c0_0] 22 (0, 0))) (hr0_0 : Kd.C (Kd.int .i64) w A0_0 l0_0.length l0_0) (hc0_0 : l0_0.length ≤ c0_0) (hb1 : w.heap[gc1]? = some (.cells #[.int .i64 a1_0, .slice A1_1 l1_1.length c1_1] 40 (0, 0))) (hr1_1 : Kd.C (Kd.int .i64) w A1_1 l1_1.length l1_1) (hc1_1 : l1_1.length ≤ c1_1) (h : impl_SumOfExpansion_1.f l0_0 a1_0 l1_1 = some r) :
  Calls Try.prog 97 #[.pointer (some ⟨gc0, 0, none⟩), .pointer (some ⟨gc1, 0, none⟩)] w fun e w' => e = .returned (.bool r) ∧ Below w.heap.size w w' := by
 have hu40 := Try.underlying40
 have hmf : ∀ (fn_ : Fn) (first_ cap_ : Array Value) (w_ : World), (Instr.makeFunc fn_ first_ cap_).run Try.prog w_ = .ok (.func fn_ first_ cap_) w_ := fun _ _ _ _ => rfl
 have HR0_0 := zA hr0_0
 have HC0_0 := zA hc0_0
 clear hr0_0 hc0_0
 have HR1_1 := zA hr1_1
 have HC1_1 := zA hc1_1
 clear hr1_1 hc1_1
 have BK0 := zA hb0
 clear hb0
 have BK1 := zA hb1
 clear hb1
 have HB := zA (Below.refl w.heap.size w)
 have H : (if (l0_0.length : Int) ≤ 12 then ((impl_Moments_field.f a1_0 l1_1).bind fun t594 => ((impl_areAll_int64.f l0_0 (fun z_ => impl_field_has.f t594 z_)).bind fun t595 => (some t595))) else (some false)) = some r := h
 clear h
 by_cases c3 : (l0_0.length : Int) ≤ 12
 rotate_left
 ·rw [if_neg c3] at H
  have c3b0 : decide ((l0_0.length : Int) ≤ 12) = false := decide_eq_false c3
  have c3b1 : decide (l0_0.length ≤ 12) = false := decide_eq_false (by omega)
  clear c3
  obtain rfl := Option.some.inj H
  go_enter Try.func97, Try.ntmps97
  try go_wp2
  replace BK0 := zA (blk_drew BK0.out)
  replace BK1 := zA (blk_drew BK1.out)
  replace HB := zA (below_drew1 HB.out)
  refine start_ (n := 11) (S := fun w' => w'.cell? ⟨gc0, 0, none⟩ = some (.slice A0_0 l0_0.length c0_0)) (ds := []) #[false, false, false, false, false, false, false, false, false, false, false] (by kernel_rfl) rfl rfl (bcu BK0 0) (fun hHeld => ?_); refine with_tabW impl_SumOfExpansion_1.tab1 impl_SumOfExpansion_1.bits1 (fun HT_ HW_ => ?_)
  generalize w.drew = w9 at BK0 BK1 HB hHeld ⊢
  refine take_ (i := 0) (N := some 3) (v := ?_) (a' := ?_) (bl 11 1) rfl rfl (take_ofW HT_.out HW_.out (by kernel_rfl)) (fun _ _ _ h => h) (Or.inl ⟨by rfl, ?_⟩) hHeld ?_ ?_
  rotate_left
  ·intro w' s0
   go_simp
   with_reducible rfl
  rotate_left
  ·simp only [Act.put, ls, lz, ln, i64_w, i32_w]
   rfl
  refine pu_ 1 4 (bl 11 3) HT_ ?_
  refine pu_ 2 5 (bl 11 7) HT_ ?_
  refine pu_ 3 6 (bl 11 15) HT_ ?_
  refine un_ 4 7 (bl 11 31) HT_ ?_
  refine un_ 5 8 (bl 11 63) HT_ ?_
  refine un_ 6 9 (bl 11 127) HT_ ?_
  refine un_ 7 10 (bl 11 255) HT_ ?_
  refine un_ 8 11 (bl 11 511) HT_ ?_
  refine pu_ 9 12 (bl 11 1023) HT_ ?_
  refine pu_ 10 2 (bl 11 2047) HT_ ?_
  refine done_ (done_of HT_.out (by kernel_rfl)) ?_
  try go_wp2
  go_ret
  exact ⟨by first | rfl | (simp [errW_none, errW_some] <;> rfl) | (simp [*, errW_none, errW_some] <;> rfl), uH HB.out⟩

 rw [if_pos c3] at H
 have c3b0 : decide ((l0_0.length : Int) ≤ 12) = true := decide_eq_true c3
 have c3b1 : decide (l0_0.length ≤ 12) = true := decide_eq_true (by omega)
 clear c3
 replace H := Option.bind_eq_some_iff.mp H
 obtain ⟨t594, A40, H⟩ := H
 replace H : ((impl_areAll_int64.f l0_0 (fun z_ => impl_field_has.f t594 z_)).bind fun t595 => (some t595)) = some r := H
 have A4 := zA A40
 clear A40
 replace H := Option.bind_eq_some_iff.mp H
 obtain ⟨t595, A50, H⟩ := H
 replace H : (some t595) = some r := H
 have A5 := zA A50
 clear A50
 obtain rfl := Option.some.inj H
 go_enter Try.func97, Try.ntmps97
 try go_wp2
 replace BK0 := zA (blk_drew BK0.out)
 replace BK1 := zA (blk_drew BK1.out)
 replace HB := zA (below_drew1 HB.out)
 refine start_ (n := 11) (S := fun w' => w'.cell? ⟨gc0, 0, none⟩ = some (.slice A0_0 l0_0.length c0_0) ∧ w'.cell? ⟨gc1, 0, none⟩ = some (.int .i64 a1_0) ∧ w'.cell? ⟨gc1, 1, none⟩ = some (.slice A1_1 l1_1.length c1_1)) (ds := []) #[false, false, false, false, false, false, false, false, false, false, false] (by kernel_rfl) rfl rfl ⟨bcu BK0 0, bcu BK1 0, bcu BK1 1⟩ (fun hHeld => ?_); refine with_tabW impl_SumOfExpansion_1.tab1 impl_SumOfExpansion_1.bits1 (fun HT_ HW_ => ?_)
 generalize w.drew = w6 at BK0 BK1 HB hHeld ⊢
 refine ta_ 0 3 (bl 11 1) HT_ HW_ hHeld ?_
 refine pu_ 1 4 (bl 11 3) HT_ ?_
 refine pu_ 2 5 (bl 11 7) HT_ ?_
 refine pu_ 3 6 (bl 11 15) HT_ ?_
 refine ta_ 4 7 (bl 11 31) HT_ HW_ hHeld ?_
 refine ta_ 5 8 (bl 11 63) HT_ HW_ hHeld ?_
 refine on_ 6 (some 9) (bl 11 127) HT_ (fun K hK => ?_)
 refine gS Try.func75 #[.agg #[.int .i64 a1_0, .slice A1_1 l1_1.length c1_1]] ?_
 with_reducible refine (impl_Moments_field.calls a1_0 _ _ l1_1 t594 _ ?side1 ?side2 A4.out).mono ?_
 (case side1 => exact uC ((Kd.C_below HR1_1.out HB.out)))
 (case side2 => exact HC1_1.out)
 rintro e w7 ⟨rfl, hb⟩
 refine ⟨_, rfl, ?_⟩
 replace BK0 := xB BK0 hb
 replace BK1 := xB BK1 hb
 replace HB := xH HB hb
 (try clear hb); (try clear hb2); (try clear hk); (try clear hi)
 refine hK.out _ _ ⟨bcu BK0 0, bcu BK1 0, bcu BK1 1⟩ (fun hHeld => ?_)
 clear hK K
 refine no_ 9 ?_
 refine pu_ 7 10 (bl 11 255) HT_ ?_
 refine on_ 8 (some 11) (bl 11 511) HT_ (fun K hK => ?_)
 refine gS Try.func98 #[.slice A0_0 l0_0.length c0_0, (.func (.func 99) #[.int .i64 t594] #[])] ?_
 with_reducible refine (impl_areAll_int64.calls _ _ l0_0 _ (fun z_ => impl_field_has.f t594 z_) t595 _ ?side1 ?side2 ?side3 A5.out).mono ?_
 (case side1 => exact uC ((Kd.C_below HR0_0.out HB.out)))
 (case side2 => exact HC0_0.out)
 (case side3 => exact FnI.of Try.func99 (by kernel_rfl) rfl (fun z_ r_ hr_ W_ hW_ => calls_of_args (args' := #[.int .i64 t594, .int .i64 z_]) (by simp) ((impl_field_has.calls t594 z_ r_ W_  hr_).mono fun e_ W2_ h_ => ⟨h_.1, h_.2.below⟩)))
 rintro e w8 ⟨rfl, hb⟩
 refine ⟨_, rfl, ?_⟩
 replace BK0 := xB BK0 hb
 replace BK1 := xB BK1 hb
 replace HB := xH HB hb
 (try clear hb); (try clear hb2); (try clear hk); (try clear hi)
 refine hK.out _ _ ⟨bcu BK0 0, bcu BK1 0, bcu BK1 1⟩ (fun hHeld => ?_)
 clear hK K
 refine no_ 11 ?_
 refine pu_ 9 12 (bl 11 1023) HT_ ?_
 refine pu_ 10 2 (bl 11 2047) HT_ ?_
 refine done_ (done_of HT_.out (by kernel_rfl)) ?_
 try go_wp2
 go_ret
 exact ⟨by first | rfl | (simp [errW_none, errW_some] <;> rfl) | (simp [*, errW_none, errW_some] <;> rfl), uH HB.out⟩
/-! ### spec_SumOfExpansion: function 43 -/
mutual
def spec_SumOfExpansion.j1 : Nat → List Int → Int → List Int → Option (List Int × Int)
 | 0, _, _, _ => none
 | k + 1, x1, x580000, x580001 => (some (([] : List Int) : List Int)).bind fun y583 => (if (x1.length : Int) = 0 then (some (y583, 0)) else ((spec_l04Polys.f k x580000 x580001 (wrap64 ((x1.length : Int) - 1))).bind fun t586 => (spec_SumOfExpansion.l0 k x1 y583 t586 0 x580000 x580001)))
def spec_SumOfExpansion.l0 : Nat → List Int → List Int → List (List Int) → Int → Int → List Int → Option (List Int × Int)
 | 0, _, _, _, _, _, _ => none
 | k + 1, x1, x6, x7, x8, x580000, x580001 => if x8 < (x1.length : Int) then (if 0 ≤ x8 then (if x8 < (x7.length : Int) then ((spec_l01Add.f k x580000 x6 (rd_L1 x7 x8) (rd x1 x8)).bind fun t591 => (spec_SumOfExpansion.l0 k x1 t591 x7 (wrap64 (x8 + 1)) x580000 x580001)) else (none)) else (none)) else (some (x6, 0))
def spec_SumOfExpansion.j0 : Nat → List Int → Bool → Int → List Int → Option (List Int × Int)
 | 0, _, _, _, _ => none
 | k + 1, x1, x13, x580000, x580001 => if x13 = true then (some (([] : List Int), 2)) else (if (x1.length : Int) > 0 then ((spec_l04Regular.f k x580000 x580001 (wrap64 ((x1.length : Int) - 1))).bind fun t582 => (if t582 = true then (spec_SumOfExpansion.j1 k x1 x580000 x580001) else (some (([] : List Int), 5)))) else (spec_SumOfExpansion.j1 k x1 x580000 x580001))
end
def spec_SumOfExpansion.f (k : Nat) (a0_0 : Int) (l0_1 : List Int) (l1 : List Int) : Option (List Int × Int) := (spec_l02Are.f k a0_0 l0_1).bind fun t580 => (if t580 = true then (if (l1.length : Int) > 12 then (spec_SumOfExpansion.j0 k l1 true a0_0 l0_1) else ((spec_l02Numbers.f k a0_0 l1).bind fun t581 => (spec_SumOfExpansion.j0 k l1 (!t581) a0_0 l0_1))) else (some (([] : List Int), 1)))
def spec_SumOfExpansion.T14 : Bool × List (List Nat × List Nat) := (true, [([], []), ([0], [0]), ([], []), ([], []), ([], []), ([3, 4], [3, 4]), ([5], [5]), ([], []), ([], []), ([7, 8], [7, 8]), ([9], [9]), ([1, 2, 6, 10], [1, 2, 6, 10]), ([11, 11, 0, 1, 2, 3, 4, 5, 6, 7, 8, 9, 10, 11], [2, 11])])
def spec_SumOfExpansion.B14 : List Nat := [0, 1, 0, 0, 0, 24, 56, 0, 0, 384, 896, 2047, 4095]
theorem spec_SumOfExpansion.tab14 : rtab .any (opsOf Try.f43 14) = spec_SumOfExpansion.T14 := by kernel_rfl
theorem spec_SumOfExpansion.bits14 : waitsOk spec_SumOfExpansion.T14.2 spec_SumOfExpansion.B14 = true := by kernel_rfl
set_option maxHeartbeats 8000000 in
set_option maxRecDepth 100000 in
theorem spec_SumOfExpansion.calls (k : Nat) (a0_0 : Int) (A0_1 : Option Addr) (c0_1 : Nat) (l0_1 : List Int) (A1 : Option Addr) (c1 : Nat) (l1 : List Int) (r1 : List Int) (r2 : Int) (w : World) (hr0_1 : Kd.C (Kd.int .i64) w A0_1 l0_1.length l0_1) (hc0_1 : l0_1.length ≤ c0_1) (hr1 : Kd.C (Kd.int .i64) w A1 l1.length l1) (hc1 : l1.length ≤ c1) (h : spec_SumOfExpansion.f k a0_0 l0_1 l1 = some (r1, r2)) :
  Calls Try.prog 43 #[.agg #[.int .i64 a0_0, .slice A0_1 l0_1.length c0_1], .slice A1 l1.length c1] w fun e w' => ∃ v0_ : Value, e = .returned (.tuple #[v0_, .int .i64 r2]) ∧ Kd.R (Kd.int .i64) 2 w' w.heap.size (fun _ => True) v0_ r1 ∧ Below w.heap.size w w' := by
 have hu40 := Try.underlying40
 have HR0_1 := zA hr0_1
 have HC0_1 := zA hc0_1
 clear hr0_1 hc0_1
 have HR1 := zA hr1
 have HC1 := zA hc1
 clear hr1 hc1
 have HB := zA (Below.refl w.heap.size w)
 have H : ((spec_l02Are.f k a0_0 l0_1).bind fun t580 => (if t580 = true then (if (l1.length : Int) > 12 then (spec_SumOfExpansion.j0 k l1 true a0_0 l0_1) else ((spec_l02Numbers.f k a0_0 l1).bind fun t581 => (spec_SumOfExpansion.j0 k l1 (!t581) a0_0 l0_1))) else (some (([] : List Int), 1)))) = some (r1, r2) := h
 clear h
 have HC3 := zA H
 clear H
 go_enter Try.func43, Try.ntmps43
 go_upto_block 0 with (first | ((with_reducible refine gate_dst (N := 2) rfl ?_); (try (refine gate_guard (by rfl) ?_; dsimp only)); refine bx 2 #[.int .i64 a0_0, .slice A0_1 l0_1.length c0_1] 40 ?_; intro gb579 hg w4 hbox hb; have BK579 := zA (hbox); have GW579 := gq HB hg; have GE579 := gq HB hg; replace HB := xH HB hb; have := geI GE579; clear hb hbox hg))
 (try simp only [Act.put, ls, lz, ln])
 go_cut [] (fun wc => ∃ (kq : Nat), Aside0 (spec_SumOfExpansion.j1 kq l1 a0_0 l0_1 = some (r1, r2)) ∧ Aside0 (kq ≤ k) ∧ Aside0 (wc.heap[gb579]? = some (.cells #[.int .i64 a0_0, (.slice A0_1 l0_1.length c0_1)] 40 (0, 0))) ∧ Aside0 (Below w.heap.size w wc))
 case first =>
  have H := HC3.out
  clear HC3
  replace H := Option.bind_eq_some_iff.mp H
  obtain ⟨t580, A50, H⟩ := H
  replace H : (if t580 = true then (if (l1.length : Int) > 12 then (spec_SumOfExpansion.j0 k l1 true a0_0 l0_1) else ((spec_l02Numbers.f k a0_0 l1).bind fun t581 => (spec_SumOfExpansion.j0 k l1 (!t581) a0_0 l0_1))) else (some (([] : List Int), 1))) = some (r1, r2) := H
  have A5 := zA A50
  clear A50
  by_cases c6 : t580 = true
  ·subst c6
   have H1 : (if (l1.length : Int) > 12 then (spec_SumOfExpansion.j0 k l1 true a0_0 l0_1) else ((spec_l02Numbers.f k a0_0 l1).bind fun t581 => (spec_SumOfExpansion.j0 k l1 (!t581) a0_0 l0_1))) = some (r1, r2) := by rw [if_pos rfl] at H; exact H
   clear H
   have H := H1
   clear H1
   have HC7 := zA H
   clear H
   have hcz8_0 := bc BK579 0
   have hcz8_1 := bc BK579 1
   have hfz8_0 := bf BK579 0
   have hfz8_1 := bf BK579 1
   go_upto_region 3 with (first | ((with_reducible refine gate_callee (f := 61) rfl ?_); refine gL (some 11) Try.func61 #[.agg #[.int .i64 a0_0, .slice A0_1 l0_1.length c0_1]] ?_; (with_reducible refine (spec_l02Are.calls k a0_0 _ _ l0_1 true _ ?side1 ?side2 A5.out).mono ?_); (case side1 => exact uC ((Kd.C_below HR0_1.out HB.out))); (case side2 => exact HC0_1.out); rintro e w9 ⟨rfl, hb⟩; refine ⟨_, rfl, ?_⟩; replace BK579 := xB BK579 hb; replace HB := xH HB hb; (try clear hb); (try clear hb2); (try clear hk); (try clear hi)))
   (try simp only [Act.put, ls, lz, ln])
   go_cut [13] (fun v13 wc => ∃ (kq : Nat) (x13_6 : Bool), v13 = .bool x13_6 ∧ Aside0 (spec_SumOfExpansion.j0 kq l1 x13_6 a0_0 l0_1 = some (r1, r2)) ∧ Aside0 (kq ≤ k) ∧ Aside0 (wc.heap[gb579]? = some (.cells #[.int .i64 a0_0, (.slice A0_1 l0_1.length c0_1)] 40 (0, 0))) ∧ Aside0 (Below w.heap.size w wc))
   case first =>
    have H := HC7.out
    clear HC7
    by_cases c10 : (l1.length : Int) > 12
    rotate_left
    ·rw [if_neg c10] at H
     have c10b0 : decide (12 < (l1.length : Int)) = false := decide_eq_false c10
     have c10b1 : decide (12 < l1.length) = false := decide_eq_false (by omega)
     clear c10
     (first | rw [c10b0] | (simp only [i64_w, i32_w]; rw [c10b0]) | skip)
     replace H := Option.bind_eq_some_iff.mp H
     obtain ⟨t581, A110, H⟩ := H
     replace H : (spec_SumOfExpansion.j0 k l1 (!t581) a0_0 l0_1) = some (r1, r2) := H
     have A11 := zA A110
     clear A110
     have H' := zA H
     clear H
     have hcz12_0 := bc BK579 0
     have hcz12_1 := bc BK579 1
     have hfz12_0 := bf BK579 0
     have hfz12_1 := bf BK579 1
     go_wp2_with (first | (go_at_call 94; (with_reducible refine (spec_l02Numbers.calls k a0_0 _ _ l1 t581 _ ?side1 ?side2 A11.out).mono ?_); (case side1 => exact uC ((Kd.C_below HR1.out HB.out))); (case side2 => exact HC1.out); rintro e w' ⟨rfl, ⟨nd, rfl⟩⟩))
     go_meet
     case rel => exact ⟨_, (!t581), (by first | rfl | (simp; done) | (simp [*]; done)), H', ⟨by first | omega | exact Nat.le_refl _⟩, ⟨uB BK579.out⟩, ⟨uH HB.out⟩⟩
    rw [if_pos c10] at H
    have c10b0 : decide (12 < (l1.length : Int)) = true := decide_eq_true c10
    have c10b1 : decide (12 < l1.length) = true := decide_eq_true (by omega)
    clear c10
    (first | rw [c10b0] | (simp only [i64_w, i32_w]; rw [c10b0]) | skip)
    have H' := zA H
    clear H
    go_wp2
    go_meet
    case rel => exact ⟨_, (true), (by first | rfl | (simp; done) | (simp [*]; done)), H', ⟨by first | omega | exact Nat.le_refl _⟩, ⟨uB BK579.out⟩, ⟨uH HB.out⟩⟩
   case rest =>
    clear HC7
    (try clear c1);(try clear p2);(try clear c4);(try clear c6);(try clear c10);(try clear c10b0);(try clear c10b1);(try clear hcz12_0);(try clear hcz12_1);(try clear hcz8_0);(try clear hcz8_1);(try clear hfz12_0);(try clear hfz12_1);(try clear hfz8_0);(try clear hfz8_1)
    obtain ⟨kq, x13_6, rfl, HA, HJ6, BK579, HB⟩ := hcut
    cases kq with
    | zero => exact absurd HA.out (by simp [spec_SumOfExpansion.j0])
    | succ kj6 =>
     have H := HA.out
     clear HA
     simp only [spec_SumOfExpansion.j0] at H
     by_cases c13 : x13_6 = true
     ·subst c13
      have H1 : (some (([] : List Int), 2)) = some (r1, r2) := by rw [if_pos rfl] at H; exact H
      clear H
      have H := H1
      clear H1
      simp only [Option.some.injEq, Prod.mk.injEq] at H
      obtain ⟨rfl, rfl⟩ := H
      go_wp2
      go_ret2
      exact ⟨_, by first | rfl | (simp [errW_none, errW_some] <;> rfl) | (simp [*, errW_none, errW_some] <;> rfl), by first | exact Kd.R_nil _ _ _ _ _ | exact Kd.N_nil _ _ _ _ _ | exact Kd.V_nil _ _ _ _ _ | exact Kd.Q_nil _ _ _ _ _ | exact Kd.S_nil _ _ _ _ _, uH HB.out⟩
     ·replace c13 := Bool.eq_false_iff.mpr c13
      subst c13
      have H1 : (if (l1.length : Int) > 0 then ((spec_l04Regular.f kj6 a0_0 l0_1 (wrap64 ((l1.length : Int) - 1))).bind fun t582 => (if t582 = true then (spec_SumOfExpansion.j1 kj6 l1 a0_0 l0_1) else (some (([] : List Int), 5)))) else (spec_SumOfExpansion.j1 kj6 l1 a0_0 l0_1)) = some (r1, r2) := by rw [if_neg (show ¬ (false = true) by decide)] at H; exact H
      clear H
      have H := H1
      clear H1
      by_cases c14 : (l1.length : Int) > 0
      rotate_left
      ·rw [if_neg c14] at H
       have c14b0 : decide (0 < (l1.length : Int)) = false := decide_eq_false c14
       have c14b1 : decide (0 < l1.length) = false := decide_eq_false (by omega)
       clear c14
       have H' := zA H
       clear H
       go_wp2
       go_meet
       case rel => exact ⟨_, H', ⟨by have := HJ6.out; first | omega | exact Nat.le_refl _⟩, ⟨uB BK579.out⟩, ⟨uH HB.out⟩⟩
      rw [if_pos c14] at H
      have c14b0 : decide (0 < (l1.length : Int)) = true := decide_eq_true c14
      have c14b1 : decide (0 < l1.length) = true := decide_eq_true (by omega)
      clear c14
      replace H := Option.bind_eq_some_iff.mp H
      obtain ⟨t582, A150, H⟩ := H
      replace H : (if t582 = true then (spec_SumOfExpansion.j1 kj6 l1 a0_0 l0_1) else (some (([] : List Int), 5))) = some (r1, r2) := H
      have A15 := zA A150
      clear A150
      by_cases c16 : t582 = true
      ·subst c16
       have H1 : (spec_SumOfExpansion.j1 kj6 l1 a0_0 l0_1) = some (r1, r2) := by rw [if_pos rfl] at H; exact H
       clear H
       have H := H1
       clear H1
       have H' := zA H
       clear H
       have hcz17_0 := bc BK579 0
       have hcz17_1 := bc BK579 1
       have hfz17_0 := bf BK579 0
       have hfz17_1 := bf BK579 1
       go_wp2_with (first | (go_at_call 95; (with_reducible refine (spec_l04Regular.calls kj6 a0_0 _ _ l0_1 (wrap64 ((l1.length : Int) - 1)) true _ ?side1 ?side2 A15.out).mono ?_); (case side1 => exact uC ((Kd.C_below HR0_1.out HB.out))); (case side2 => exact HC0_1.out); rintro e w18 ⟨rfl, hb⟩; replace BK579 := xB BK579 hb; replace HB := xH HB hb; (try clear hb); (try clear hb2); (try clear hk); (try clear hi)))
       go_meet
       case rel => exact ⟨_, H', ⟨by have := HJ6.out; first | omega | exact Nat.le_refl _⟩, ⟨uB BK579.out⟩, ⟨uH HB.out⟩⟩
      ·replace c16 := Bool.eq_false_iff.mpr c16
       subst c16
       have H1 : (some (([] : List Int), 5)) = some (r1, r2) := by rw [if_neg (show ¬ (false = true) by decide)] at H; exact H
       clear H
       have H := H1
       clear H1
       simp only [Option.some.injEq, Prod.mk.injEq] at H
       obtain ⟨rfl, rfl⟩ := H
       have hcz19_0 := bc BK579 0
       have hcz19_1 := bc BK579 1
       have hfz19_0 := bf BK579 0
       have hfz19_1 := bf BK579 1
       go_wp2_with (first | (go_at_call 95; (with_reducible refine (spec_l04Regular.calls kj6 a0_0 _ _ l0_1 (wrap64 ((l1.length : Int) - 1)) false _ ?side1 ?side2 A15.out).mono ?_); (case side1 => exact uC ((Kd.C_below HR0_1.out HB.out))); (case side2 => exact HC0_1.out); rintro e w20 ⟨rfl, hb⟩; replace BK579 := xB BK579 hb; replace HB := xH HB hb; (try clear hb); (try clear hb2); (try clear hk); (try clear hi)))
       go_ret2
       exact ⟨_, by first | rfl | (simp [errW_none, errW_some] <;> rfl) | (simp [*, errW_none, errW_some] <;> rfl), by first | exact Kd.R_nil _ _ _ _ _ | exact Kd.N_nil _ _ _ _ _ | exact Kd.V_nil _ _ _ _ _ | exact Kd.Q_nil _ _ _ _ _ | exact Kd.S_nil _ _ _ _ _, uH HB.out⟩
  ·replace c6 := Bool.eq_false_iff.mpr c6
   subst c6
   have H1 : (some (([] : List Int), 1)) = some (r1, r2) := by rw [if_neg (show ¬ (false = true) by decide)] at H; exact H
   clear H
   have H := H1
   clear H1
   simp only [Option.some.injEq, Prod.mk.injEq] at H
   obtain ⟨rfl, rfl⟩ := H
   have hcz21_0 := bc BK579 0
   have hcz21_1 := bc BK579 1
   have hfz21_0 := bf BK579 0
   have hfz21_1 := bf BK579 1
   go_wp2_with (first | ((with_reducible refine gate_callee (f := 61) rfl ?_); refine gL (some 11) Try.func61 #[.agg #[.int .i64 a0_0, .slice A0_1 l0_1.length c0_1]] ?_; (with_reducible refine (spec_l02Are.calls k a0_0 _ _ l0_1 false _ ?side1 ?side2 A5.out).mono ?_); (case side1 => exact uC ((Kd.C_below HR0_1.out HB.out))); (case side2 => exact HC0_1.out); rintro e w22 ⟨rfl, hb⟩; refine ⟨_, rfl, ?_⟩; replace BK579 := xB BK579 hb; replace HB := xH HB hb; (try clear hb); (try clear hb2); (try clear hk); (try clear hi)))
   go_ret2
   exact ⟨_, by first | rfl | (simp [errW_none, errW_some] <;> rfl) | (simp [*, errW_none, errW_some] <;> rfl), by first | exact Kd.R_nil _ _ _ _ _ | exact Kd.N_nil _ _ _ _ _ | exact Kd.V_nil _ _ _ _ _ | exact Kd.Q_nil _ _ _ _ _ | exact Kd.S_nil _ _ _ _ _, uH HB.out⟩
 case rest =>
  clear HC3
  (try clear c1);(try clear p2);(try clear c4);(try clear c6);(try clear p6);(try clear c10);(try clear c10b0);(try clear c10b1);(try clear c13);(try clear c14);(try clear c14b0);(try clear c14b1);(try clear c16);(try clear hcz12_0);(try clear hcz12_1);(try clear hcz17_0);(try clear hcz17_1);(try clear hcz19_0);(try clear hcz19_1);(try clear hcz21_0);(try clear hcz21_1);(try clear hcz8_0);(try clear hcz8_1)
  (try clear hfz12_0);(try clear hfz12_1);(try clear hfz17_0);(try clear hfz17_1);(try clear hfz19_0);(try clear hfz19_1);(try clear hfz21_0);(try clear hfz21_1);(try clear hfz8_0);(try clear hfz8_1);(try clear p2)
  obtain ⟨kq, HA, HJ2, BK579, HB⟩ := hcut
  cases kq with
  | zero => exact absurd HA.out (by simp [spec_SumOfExpansion.j1])
  | succ kj2 =>
   have H := HA.out
   clear HA
   simp only [spec_SumOfExpansion.j1] at H
   obtain ⟨y583, hy583⟩ : ∃ y_ : List Int, y_ = (([] : List Int)) := ⟨_, rfl⟩
   replace H : (if (l1.length : Int) = 0 then (some (y583, 0)) else ((spec_l04Polys.f kj2 a0_0 l0_1 (wrap64 ((l1.length : Int) - 1))).bind fun t586 => (spec_SumOfExpansion.l0 kj2 l1 y583 t586 0 a0_0 l0_1))) = some (r1, r2) := by first | (rw [hy583]; exact H) | exact H
   have Ny583 := zA hy583
   clear hy583
   by_cases c23 : (l1.length : Int) = 0
   rotate_left
   ·rw [if_neg c23] at H
    have c23b0 : ((l1.length : Int) == 0) = false := beq_eq_false_iff_ne.mpr c23
    have c23b1 : ((l1.length : Int) != 0) = true := bne_iff_ne.mpr c23
    have c23b2 : ¬ (l1 = []) := fun h_ => c23 (by rw [h_]; rfl)
    replace H := Option.bind_eq_some_iff.mp H
    obtain ⟨t586, A260, H⟩ := H
    replace H : (spec_SumOfExpansion.l0 kj2 l1 y583 t586 0 a0_0 l0_1) = some (r1, r2) := H
    have A26 := zA A260
    clear A260
    have H' := zA H
    clear H
    go_wp2_with (first | ((with_reducible refine gate_dst (N := 36) rfl ?_); (try (refine gate_guard (by rfl) ?_; dsimp only)); refine Kd.R_lit (Kd.int .i64) _ 2 ?hg (N := 36) ?hd (xs := ([] : List Int)) (inner := []) (ok := fun _ => True) (okp := fun _ => True) ?hr ?hp (fun _ hk => hk) trivial (Below.refl _ _) (Nat.le_refl _) (by simp) ?_; (case hd => rfl); (case hg => rfl); (case hr => first | (go_simp; done) | (go_simp; rfl)); (case hp => exact (Reps.none _ _)); intro v584 w27 ho28 hb hg_ hnew_; clear hg_ hnew_; (first | rw [← Ny583.out] at ho28 | (simp only [Int.reduceToNat] at ho28; rw [← Ny583.out] at ho28)); have HO585 := zA (Kd.R_lower ho28 (below_size (uH HB.out))); replace BK579 := xB BK579 hb; replace HB := xH HB hb; clear hb ho28; have hcz29_0 := bc BK579 0; have hcz29_1 := bc BK579 1; have hfz29_0 := bf BK579 0; have hfz29_1 := bf BK579 1) | ((with_reducible refine gate_callee (f := 85) rfl ?_); refine gL (some 45) Try.func85 #[.agg #[.int .i64 a0_0, .slice A0_1 l0_1.length c0_1], .int .i64 (wrap64 ((l1.length : Int) - 1))] ?_; (with_reducible refine (spec_l04Polys.calls kj2 a0_0 _ _ l0_1 (wrap64 ((l1.length : Int) - 1)) t586 _ ?side1 ?side2 A26.out).mono ?_); (case side1 => exact uC ((Kd.C_below HR0_1.out HB.out))); (case side2 => exact HC0_1.out); rintro e w30 ⟨v587, rfl, ho0, hb⟩; refine ⟨_, rfl, ?_⟩; have HO588 := zA (Kd.N_lower (Kd.N_mono (ok' := fun k_ => some k_ ≠ (v584 : Value).ownBlock ∧ k_ ≠ gb579) ho0 (fun k_ hk_ => ⟨(Kd.fresh' (Kd.R_lt (uR HO585.out)) k_ hk_), (Kd.freshB (g := gb579) (o := .cells #[.int .i64 a0_0, .slice A0_1 l0_1.length c0_1] 40 (0, 0)) (uB BK579.out) k_ hk_)⟩)) (below_size (uH HB.out))); replace HO585 := xR HO585 hb; replace BK579 := xB BK579 hb; replace HB := xH HB hb; (try clear hb); (try clear hb2); (try clear hk); (try clear hi); (try clear ho0)))
    go_loopg [6, 8] kj2 (fun kq v6 v8 w' => ∃ (x6_2 : List Int) (x8_2 : Int), v8 = .int .i64 x8_2 ∧ Aside0 (spec_SumOfExpansion.l0 kq l1 x6_2 t586 x8_2 a0_0 l0_1 = some (r1, r2)) ∧ Aside0 (kq ≤ kj2) ∧ Aside0 (Kd.R (Kd.int .i64) 2 w' w.heap.size (fun _ => True) v6 x6_2) ∧ Aside0 (Kd.N (Kd.slice 2 (Kd.int .i64)) 22 w' w.heap.size (fun k_ => some k_ ≠ (v6 : Value).ownBlock ∧ k_ ≠ gb579) v587 t586) ∧ Aside0 (w'.heap[gb579]? = some (.cells #[.int .i64 a0_0, (.slice A0_1 l0_1.length c0_1)] 40 (0, 0))) ∧ Aside0 (Below w.heap.size w w'))
    case atStart => exact ⟨(y583), (0), (by first | rfl | (simp; done) | (simp [*]; done)), H', ⟨Nat.le_refl _⟩, ⟨uR HO585.out⟩, ⟨by (with_reducible repeat (first | apply Kd.N_alloc | apply Kd.N_drewN | apply Kd.N_drew)); exact HO588.out⟩, ⟨uB BK579.out⟩, ⟨uH HB.out⟩⟩
    case round =>
     clear H'
     (try clear c1);(try clear c2);(try clear p2);(try clear c4);(try clear c6);(try clear p6);(try clear c8);(try clear c10);(try clear c10b0);(try clear c10b1);(try clear c13);(try clear c14);(try clear c14b0);(try clear c14b1);(try clear c16);(try clear c23);(try clear c23b0);(try clear c23b1);(try clear c23b2);(try clear hcz12_0);(try clear hcz12_1);(try clear hcz17_0);(try clear hcz17_1);(try clear hcz19_0)
     (try clear hcz19_1);(try clear hcz21_0);(try clear hcz21_1);(try clear hcz29_0);(try clear hcz29_1);(try clear hcz8_0);(try clear hcz8_1);(try clear hfz12_0);(try clear hfz12_1);(try clear hfz17_0);(try clear hfz17_1);(try clear hfz19_0);(try clear hfz19_1);(try clear hfz21_0);(try clear hfz21_1);(try clear hfz29_0);(try clear hfz29_1);(try clear hfz8_0);(try clear hfz8_1);(try clear p2);(try clear p6)
     obtain ⟨x6_2, x8_2, rfl, HA, HK2, HO_6, HO_7, BK579, HB⟩ := hrel
     cases gk with
     | zero => exact absurd HA.out (by simp [spec_SumOfExpansion.l0])
     | succ k2 =>
      have H := HA.out
      clear HA
      simp only [spec_SumOfExpansion.l0] at H
      by_cases c31 : x8_2 < (l1.length : Int)
      rotate_left
      ·rw [if_neg c31] at H
       have c31b0 : decide (x8_2 < (l1.length : Int)) = false := decide_eq_false c31
       clear c31
       simp only [Option.some.injEq, Prod.mk.injEq] at H
       obtain ⟨rfl, rfl⟩ := H
       go_wp2
       go_ret2
       exact ⟨_, by first | rfl | (simp [errW_none, errW_some] <;> rfl) | (simp [*, errW_none, errW_some] <;> rfl), uR HO_6.out, uH HB.out⟩

      rw [if_pos c31] at H
      have c31b0 : decide (x8_2 < (l1.length : Int)) = true := decide_eq_true c31
      clear c31
      by_cases c32 : 0 ≤ x8_2
      rotate_left
      ·rw [if_neg c32] at H
       exact absurd H (by simp)
      rw [if_pos c32] at H
      have c32b0 : decide (0 ≤ x8_2) = true := decide_eq_true c32
      clear c32
      by_cases c33 : x8_2 < (t586.length : Int)
      rotate_left
      ·rw [if_neg c33] at H
       exact absurd H (by simp)
      rw [if_pos c33] at H
      have c33b0 : decide (x8_2 < (t586.length : Int)) = true := decide_eq_true c33
      clear c33
      replace H := Option.bind_eq_some_iff.mp H
      obtain ⟨t591, A340, H⟩ := H
      replace H : (spec_SumOfExpansion.l0 k2 l1 t591 t586 (wrap64 (x8_2 + 1)) a0_0 l0_1) = some (r1, r2) := H
      have A34 := zA A340
      clear A340
      have H' := zA H
      clear H
      try go_wp2
      replace HO_6 := zA (Kd.R_drew HO_6.out)
      replace HO_7 := zA (Kd.N_drew HO_7.out)
      replace BK579 := zA (blk_drew BK579.out)
      replace HB := zA (below_drew1 HB.out)
      obtain ⟨Ao36, co36, eo36⟩ := Kd.N_slice HO_7.out
      (first | subst eo36 | (injection eo36 with f1_ f2_ f3_; have f4_ := f1_.symm; have f5_ := f3_.symm; clear f1_ f2_ f3_; subst f4_; subst f5_))
      have p589 : 0 ≤ (x8_2 : Int) := of_decide_eq_true (by first | (with_reducible assumption) | assumption)
      have q589 : x8_2 < (t586.length : Int) := of_decide_eq_true (by first | (with_reducible assumption) | assumption)
      obtain ⟨ad589, A589_0, c589_0, e589, hx589_0, hl589_0, hi589_0⟩ := at_L1 (Kd.N_reads' HO_7.out).2.2 x8_2 p589 q589
      cases e589
      obtain ⟨ce589, hce589, hMe589, hcc589⟩ := Kd.N_get HO_7.out [] x8_2 p589 (by first | exact q589 | exact of_decide_eq_true (by first | (with_reducible assumption) | assumption) | (have e_ := (Kd.N_reads' HO_7.out).1; omega))
      obtain ⟨ua589_0, uc589_0, rfl, ul589_0, ge589_0⟩ := Kd.FK_slice_open hMe589
      have hv589_0 := hcc589 0 _ rfl
      rw [Nat.add_zero, show ((Kd.slice 2 (Kd.int .i64))).sz = 1 from rfl, Nat.mul_one] at hv589_0
      replace hv589_0 := Option.some.inj (hv589_0.symm.trans hx589_0)
      injection hv589_0 with hva_ hvn_ hvc_
      rw [hva_] at ge589_0
      rw [hvc_] at ul589_0
      have HL589_0 := zA (show Kd.V (Kd.int .i64) 2 _ w.heap.size _ _ (rd_L1 t586 x8_2) from Kd.V_mk ul589_0 ge589_0)
      clear hva_ hvn_ hvc_ ge589_0 ul589_0
      clear hcc589 hce589
      have HR589_0 := zA hi589_0
      have HC589_0 := zA hl589_0
      clear hi589_0 hl589_0
      replace p589 := eq_true p589
      replace q589 := eq_true q589
      have p590 : 0 ≤ (x8_2 : Int) := of_decide_eq_true (by first | (with_reducible assumption) | assumption)
      have q590 : x8_2 < (l1.length : Int) := of_decide_eq_true (by first | (with_reducible assumption) | assumption)
      obtain ⟨ad590, e590, hx590_0⟩ := Kd.at_int HR1.out x8_2 p590 q590
      have hw590_0 := hx590_0
      cases e590
      replace hx590_0 := hc HB hx590_0
      replace p590 := eq_true p590
      replace q590 := eq_true q590
      obtain ⟨Ao37, co37, eo37⟩ := Kd.R_slice HO_6.out
      (first | subst eo37 | (injection eo37 with f1_ f2_ f3_; have f4_ := f1_.symm; have f5_ := f3_.symm; clear f1_ f2_ f3_; subst f4_; subst f5_))
      refine start_ (n := 13) (S := fun w' => w'.cell? ⟨gb579, 0, none⟩ = some (.int .i64 a0_0) ∧ w'.cell? ⟨gb579, 1, none⟩ = some (.slice A0_1 l0_1.length c0_1) ∧ w'.cell? (ad589.add (x8_2).toNat) = some (.slice A589_0 (rd_L1 t586 x8_2).length c589_0) ∧ w'.cell? (ad590.add (x8_2).toNat) = some (.int .i64 (rd l1 x8_2))) (ds := []) #[false, false, false, false, false, false, false, false, false, false, false, false, false] (by kernel_rfl) rfl rfl ⟨bcu BK579 0, bcu BK579 1, hx589_0, (hcu HB hw590_0)⟩ (fun hHeld => ?_); refine with_tabW spec_SumOfExpansion.tab14 spec_SumOfExpansion.bits14 (fun HT_ HW_ => ?_)
      generalize wr.drew = w35 at HO_6 HO_7 BK579 HB HL589_0 HR589_0 hx589_0 hx590_0 hHeld ⊢
      refine pu_ 0 52 (bl 13 1) HT_ ?_
      refine pu_ 2 54 (bl 13 5) HT_ ?_
      refine pu_ 3 55 (bl 13 13) HT_ ?_
      refine pu_ 4 56 (bl 13 29) HT_ ?_
      refine pu_ 5 57 (bl 13 61) HT_ ?_
      refine pu_ 7 59 (bl 13 189) HT_ ?_
      refine pu_ 8 60 (bl 13 445) HT_ ?_
      refine pu_ 9 61 (bl 13 957) HT_ ?_
      refine ta_ 1 53 (bl 13 959) HT_ HW_ hHeld ?_
      refine ta_ 6 58 (bl 13 1023) HT_ HW_ hHeld ?_
      refine ta_ 10 62 (bl 13 2047) HT_ HW_ hHeld ?_
      refine on_ 11 (some 63) (bl 13 4095) HT_ (fun K hK => ?_)
      refine gS Try.func96 #[.int .i64 a0_0, .slice Ao37 x6_2.length co37, .slice A589_0 (rd_L1 t586 x8_2).length c589_0, .int .i64 (rd l1 x8_2)] ?_
      with_reducible refine (spec_l01Add.calls k2 a0_0 _ _ x6_2 _ _ (rd_L1 t586 x8_2) (rd l1 x8_2) t591 _ ?side1 ?side2 ?side3 ?side4 A34.out).mono ?_
      (case side1 => exact uC ((Kd.R_reads' HO_6.out).2.2))
      (case side2 => exact (Kd.R_reads' HO_6.out).2.1)
      (case side3 => repeat (first | exact (by repeat (first | (with_reducible exact HR589_0.out) | (with_reducible refine Kd.C_alloc ?_ _) | (with_reducible refine Kd.C_drewN ?_ _) | (with_reducible refine Kd.C_drew ?_) | exact HR589_0.out)) | (with_reducible refine Kd.C_alloc ?_ _) | (with_reducible refine Kd.C_drewN ?_ _) | (with_reducible refine Kd.C_drew ?_)))
      (case side4 => exact HC589_0.out)
      rintro e w38 ⟨v592, rfl, ho0, hb⟩
      have HS2_ := (hb.cell (World.block_lt_of_cell? _ _ (hHeld.2.2.1))).trans (hHeld.2.2.1)
      refine ⟨_, rfl, ?_⟩
      replace HO_7 := zA (Kd.N_elder' (by (with_reducible repeat (first | apply Kd.N_alloc | apply Kd.N_drewN | apply Kd.N_drew)); exact HO_7.out) (Kd.R_base ho0) hb)
      replace HL589_0 := zA (Kd.V_elder' (by (with_reducible repeat (first | apply Kd.V_alloc | apply Kd.V_drewN | apply Kd.V_drew)); exact HL589_0.out) (Kd.R_base ho0) hb)
      have HO593 := zA (Kd.R_lower (Kd.R_new' ho0 (Kd.R_lt (uR HO_6.out))) (below_size (uH HB.out)))
      replace HO_6 := zA (Kd.R_elder' (uR HO_6.out) (Kd.R_base ho0) hb)
      replace BK579 := xB BK579 hb
      replace HR589_0 := zA (Kd.C_below (by repeat (first | (with_reducible exact HR589_0.out) | (with_reducible refine Kd.C_alloc ?_ _) | (with_reducible refine Kd.C_drewN ?_ _) | (with_reducible refine Kd.C_drew ?_) | exact HR589_0.out)) hb)
      replace HB := xH HB hb
      (try clear hb); (try clear hb2); (try clear hk); (try clear hi); (try clear ho0)
      refine hK.out _ _ ⟨bcu BK579 0, bcu BK579 1, HS2_, (hcu HB hw590_0)⟩ (fun hHeld => ?_)
      clear hK K
      refine no_ 63 ?_
      refine pu_ 12 6 (bl 13 8191) HT_ ?_
      refine done_ (done_of HT_.out (by kernel_rfl)) ?_
      try go_wp2
      go_roundg k2
      case measure => have := HJ2.out; have := HK2.out; omega
      case rel => exact ⟨(t591), (wrap64 (x8_2 + 1)), (by first | rfl | (simp; done) | (simp [*]; done)), H', ⟨by have := HJ2.out; have := HK2.out; omega⟩, ⟨uR (Kd.R_mono HO593.out (fun _ hk => trivial))⟩, ⟨by (with_reducible repeat (first | apply Kd.N_alloc | apply Kd.N_drewN | apply Kd.N_drew)); exact Kd.N_mono HO_7.out (fun _ hk => ⟨hk.2, hk.1.2⟩)⟩, ⟨uB BK579.out⟩, ⟨uH HB.out⟩⟩
   rw [if_pos c23] at H
   have c23b0 : ((l1.length : Int) == 0) = true := beq_iff_eq.mpr c23
   have c23b1 : ((l1.length : Int) != 0) = false := bne_eq_false_iff_eq.mpr c23
   clear c23
   simp only [Option.some.injEq, Prod.mk.injEq] at H
   obtain ⟨rfl, rfl⟩ := H
   go_wp2_with (first | ((with_reducible refine gate_dst (N := 36) rfl ?_); (try (refine gate_guard (by rfl) ?_; dsimp only)); refine Kd.R_lit (Kd.int .i64) _ 2 ?hg (N := 36) ?hd (xs := ([] : List Int)) (inner := []) (ok := fun _ => True) (okp := fun _ => True) ?hr ?hp (fun _ hk => hk) trivial (Below.refl _ _) (Nat.le_refl _) (by simp) ?_; (case hd => rfl); (case hg => rfl); (case hr => first | (go_simp; done) | (go_simp; rfl)); (case hp => exact (Reps.none _ _)); intro v584 w24 ho25 hb hg_ hnew_; clear hg_ hnew_; (first | rw [← Ny583.out] at ho25 | (simp only [Int.reduceToNat] at ho25; rw [← Ny583.out] at ho25)); have HO585 := zA (Kd.R_lower ho25 (below_size (uH HB.out))); replace BK579 := xB BK579 hb; replace HB := xH HB hb; clear hb ho25))
   go_ret2
   exact ⟨_, by first | rfl | (simp [errW_none, errW_some] <;> rfl) | (simp [*, errW_none, errW_some] <;> rfl), uR HO585.out, uH HB.out⟩
end Go.Proofs.Ytfbnkebgdmfcfaa.Pr
