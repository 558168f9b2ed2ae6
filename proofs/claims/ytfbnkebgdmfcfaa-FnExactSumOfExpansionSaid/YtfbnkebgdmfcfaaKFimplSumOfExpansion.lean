/- Printed by a program of this session out of the translation: what these functions of the program compute, under the conditions that each theorem names. -/
import Derived.Test.YtfbnkebgdmfcfaaKC01
import Derived.Test.YtfbnkebgdmfcfaaKC05
import Derived.Test.YtfbnkebgdmfcfaaKFimplMomentsupTo
import Derived.Test.YtfbnkebgdmfcfaaKSumOfExpansion1
import Derived.Test.YtfbnkebgdmfcfaaKC21
namespace Go.Proofs.Ytfbnkebgdmfcfaa.Pr
open Go.RowKit Go.Proofs.YtfbnkebgdmfcfaaW.PrintWords Go.Proofs.YtfbnkebgdmfcfaaW.PrintLast Go.Proofs.YtfbnkebgdmfcfaaW.PrintMore
attribute [local go_sem] max2_int min2_int max_two min_two max_three min_three max_four min_four   -- for this text's walks alone
set_option linter.unusedVariables false
set_option linter.unusedSimpArgs false

/-! ### impl_SumOfExpansion: function 44 -/
def impl_SumOfExpansion.f (k : Nat) (a0_0 : Int) (l0_1 : List Int) (l1 : List Int) : Option (List Int × Int) := (impl_SumOfExpansion_1.f l1 a0_0 l0_1).bind fun t603 => ((impl_momentsCode.f k a0_0 l0_1 t603 ([] : List (List Int))).bind fun t604 => (if t604 = 0 then (if (l1.length : Int) = 0 then (some (([] : List Int), 0)) else ((impl_length_int64.f l1).bind fun t605 => ((impl_Moments_upTo.f k a0_0 l0_1 (wrap64 (t605 - 1))).bind fun bt606 => (if bt606.2.2.2.2.2 = true then ((impl_Moments_field.f a0_0 l0_1).bind fun t621 => ((impl_field_sum.f k t621 l1 bt606.1).bind fun t622 => (some (t622, 0)))) else (some (([] : List Int), 5)))))) else (some (([] : List Int), t604))))
def impl_SumOfExpansion.T6 : Bool × List (List Nat × List Nat) := (true, [([], []), ([], []), ([1], [1]), ([2], [2]), ([0, 3, 2], [0, 3]), ([4], [4]), ([5], [5]), ([5], [5]), ([], []), ([8, 6, 4, 0, 1, 2, 3, 4, 5, 6, 8], [6, 8]), ([7, 9, 0, 1, 2, 3, 4, 5, 6, 7, 8, 9], [7])])
def impl_SumOfExpansion.B6 : List Nat := [0, 0, 2, 6, 15, 31, 63, 63, 0, 383, 1023]
theorem impl_SumOfExpansion.tab6 : rtab .any (opsOf Try.f44 6) = impl_SumOfExpansion.T6 := by kernel_rfl
theorem impl_SumOfExpansion.bits6 : waitsOk impl_SumOfExpansion.T6.2 impl_SumOfExpansion.B6 = true := by kernel_rfl
def impl_SumOfExpansion.T9 : Bool × List (List Nat × List Nat) := (true, [([], []), ([0], [0]), ([], []), ([], []), ([3], [3]), ([1, 2, 4, 1], [1, 2, 4]), ([5, 5, 0, 1, 2, 3, 4, 5], [5]), ([6, 0, 1, 2, 3, 4, 5, 6], [])])
def impl_SumOfExpansion.B9 : List Nat := [0, 1, 0, 0, 8, 31, 63, 127]
theorem impl_SumOfExpansion.tab9 : rtab .any (opsOf Try.f44 9) = impl_SumOfExpansion.T9 := by kernel_rfl
theorem impl_SumOfExpansion.bits9 : waitsOk impl_SumOfExpansion.T9.2 impl_SumOfExpansion.B9 = true := by kernel_rfl
set_option maxHeartbeats 8000000 in
set_option maxRecDepth 100000 in
theorem impl_SumOfExpansion.calls (k : Nat) (a0_0 : Int) (A0_1 : Option Addr) (c0_1 : Nat) (l0_1 : List Int) (A1 : Option Addr) (c1 : Nat) (l1 : List Int) (r1 : List Int) (r2 : Int) (w : World) (hr0_1 : Kd.C (Kd.int .i64) w A0_1 l0_1.length l0_1) (hc0_1 : l0_1.length ≤ c0_1) (hr1 : Kd.C (Kd.int .i64) w A1 l1.length l1) (hc1 : l1.length ≤ c1) (h : impl_SumOfExpansion.f k a0_0 l0_1 l1 = some (r1, r2)) :
  Calls Try.prog 44 #[.agg #[.int .i64 a0_0, .slice A0_1 l0_1.length c0_1], .slice A1 l1.length c1] w fun e w' => ∃ v0_ : Value, e = .returned (.tuple #[v0_, .int .i64 r2]) ∧ Kd.R (Kd.int .i64) 2 w' w.heap.size (fun _ => True) v0_ r1 ∧ Below w.heap.size w w' := by
 have hu40 := Try.underlying40
 have hu95 := Try.underlying95
 have hmf : ∀ (fn_ : Fn) (first_ cap_ : Array Value) (w_ : World), (Instr.makeFunc fn_ first_ cap_).run Try.prog w_ = .ok (.func fn_ first_ cap_) w_ := fun _ _ _ _ => rfl
 have HR0_1 := zA hr0_1
 have HC0_1 := zA hc0_1
 clear hr0_1 hc0_1
 have HR1 := zA hr1
 have HC1 := zA hc1
 clear hr1 hc1
 have HB := zA (Below.refl w.heap.size w)
 have H : ((impl_SumOfExpansion_1.f l1 a0_0 l0_1).bind fun t603 => ((impl_momentsCode.f k a0_0 l0_1 t603 ([] : List (List Int))).bind fun t604 => (if t604 = 0 then (if (l1.length : Int) = 0 then (some (([] : List Int), 0)) else ((impl_length_int64.f l1).bind fun t605 => ((impl_Moments_upTo.f k a0_0 l0_1 (wrap64 (t605 - 1))).bind fun bt606 => (if bt606.2.2.2.2.2 = true then ((impl_Moments_field.f a0_0 l0_1).bind fun t621 => ((impl_field_sum.f k t621 l1 bt606.1).bind fun t622 => (some (t622, 0)))) else (some (([] : List Int), 5)))))) else (some (([] : List Int), t604))))) = some (r1, r2) := h
 clear h
 replace H := Option.bind_eq_some_iff.mp H
 obtain ⟨t603, A30, H⟩ := H
 replace H : ((impl_momentsCode.f k a0_0 l0_1 t603 ([] : List (List Int))).bind fun t604 => (if t604 = 0 then (if (l1.length : Int) = 0 then (some (([] : List Int), 0)) else ((impl_length_int64.f l1).bind fun t605 => ((impl_Moments_upTo.f k a0_0 l0_1 (wrap64 (t605 - 1))).bind fun bt606 => (if bt606.2.2.2.2.2 = true then ((impl_Moments_field.f a0_0 l0_1).bind fun t621 => ((impl_field_sum.f k t621 l1 bt606.1).bind fun t622 => (some (t622, 0)))) else (some (([] : List Int), 5)))))) else (some (([] : List Int), t604)))) = some (r1, r2) := H
 have A3 := zA A30
 clear A30
 replace H := Option.bind_eq_some_iff.mp H
 obtain ⟨t604, A40, H⟩ := H
 replace H : (if t604 = 0 then (if (l1.length : Int) = 0 then (some (([] : List Int), 0)) else ((impl_length_int64.f l1).bind fun t605 => ((impl_Moments_upTo.f k a0_0 l0_1 (wrap64 (t605 - 1))).bind fun bt606 => (if bt606.2.2.2.2.2 = true then ((impl_Moments_field.f a0_0 l0_1).bind fun t621 => ((impl_field_sum.f k t621 l1 bt606.1).bind fun t622 => (some (t622, 0)))) else (some (([] : List Int), 5)))))) else (some (([] : List Int), t604))) = some (r1, r2) := H
 have A4 := zA A40
 clear A40
 by_cases c5 : t604 = 0
 rotate_left
 ·rw [if_neg c5] at H
  have c5b0 : (t604 == 0) = false := beq_eq_false_iff_ne.mpr c5
  have c5b1 : (t604 != 0) = true := bne_iff_ne.mpr c5
  simp only [Option.some.injEq, Prod.mk.injEq] at H
  obtain ⟨rfl, rfl⟩ := H
  go_enter Try.func44, Try.ntmps44
  go_wp2_with (first | ((with_reducible refine gate_dst (N := 2) rfl ?_); refine bx 2 #[.int .i64 a0_0, .slice A0_1 l0_1.length c0_1] 40 ?_; intro gb601 hg w60 hbox hb; have BK601 := zA (hbox); have GW601 := gq HB hg; have GE601 := gq HB hg; replace HB := xH HB hb; have := geI GE601; clear hb hbox hg) | ((with_reducible refine gate_dst (N := 3) rfl ?_); refine bx 3 #[.slice A1 l1.length c1] 22 ?_; intro gb602 hg w61 hbox hb; have BK602 := zA (hbox); have GW602 := gq HB hg; have GE602 := gq HB hg; replace HB := xH HB hb; have NB601_602 := zA ((by rw [hg]; exact neL BK601 : gb601 ≠ gb602)); have NB602_601 := zA ((by rw [hg]; exact neG BK601 : gb602 ≠ gb601)); replace BK601 := xB BK601 hb; have := geI GE602; clear hb hbox hg; have hnb62 := NB601_602.out; have hnc62 := NB602_601.out; have hcz63_0 := bc BK601 0; have hcz63_1 := bc BK601 1; have hfz63_0 := bf BK601 0; have hfz63_1 := bf BK601 1) | ((with_reducible refine gate_callee (f := 68) rfl ?_); refine gL (some 11) Try.func68 #[.agg #[.int .i64 a0_0, .slice A0_1 l0_1.length c0_1], (.func (.func 97) #[] #[.pointer (some ⟨gb602, 0, none⟩), .pointer (some ⟨gb601, 0, none⟩)]), .slice none 0 0] ?_; (refine (impl_momentsCode.calls k a0_0 _ _ l0_1 _ t603 _ _ ([] : List (List Int)) t604 _ ?side1 ?side2 ?side3 ?side4 ?side5 A4.out).mono ?_); (case side1 => exact uC ((Kd.C_below HR0_1.out HB.out))); (case side2 => exact HC0_1.out); (case side3 => exact FnB.of Try.func97 (by kernel_rfl) rfl (fun W_ hW_ => calls_of_args (args' := #[.pointer (some ⟨gb602, 0, none⟩), .pointer (some ⟨gb601, 0, none⟩)]) (by simp) ((impl_SumOfExpansion_1.calls _ _ _ l1 _ a0_0 _ _ l0_1 _ W_ (blk_below (g := gb602) (o := .cells #[.slice A1 l1.length c1] 22 (0, 0)) (uB BK602.out) hW_) (Kd.C_below (by exact uC ((Kd.C_below HR1.out HB.out))) hW_) (by exact HC1.out) (blk_below (g := gb601) (o := .cells #[.int .i64 a0_0, .slice A0_1 l0_1.length c0_1] 40 (0, 0)) (uB BK601.out) hW_) (Kd.C_below (by exact uC ((Kd.C_below HR0_1.out HB.out))) hW_) (by exact HC0_1.out) A3.out).mono fun e_ W2_ h_ => ⟨h_.1, h_.2⟩))); (case side4 => exact Kd.C_nil _ _); (case side5 => exact Nat.le_refl _); rintro e w64 ⟨rfl, hb⟩; refine ⟨_, rfl, ?_⟩; replace BK601 := xB BK601 hb; replace BK602 := xB BK602 hb; replace HB := xH HB hb; (try clear hb); (try clear hb2); (try clear hk); (try clear hi)))
  go_ret2
  exact ⟨_, by first | rfl | (simp [errW_none, errW_some] <;> rfl) | (simp [*, errW_none, errW_some] <;> rfl), by first | exact Kd.R_nil _ _ _ _ _ | exact Kd.N_nil _ _ _ _ _ | exact Kd.V_nil _ _ _ _ _ | exact Kd.Q_nil _ _ _ _ _ | exact Kd.S_nil _ _ _ _ _, uH HB.out⟩

 rw [if_pos c5] at H
 have c5b0 : (t604 == 0) = true := beq_iff_eq.mpr c5
 have c5b1 : (t604 != 0) = false := bne_eq_false_iff_eq.mpr c5
 clear c5
 by_cases c6 : (l1.length : Int) = 0
 rotate_left
 ·rw [if_neg c6] at H
  have c6b0 : ((l1.length : Int) == 0) = false := beq_eq_false_iff_ne.mpr c6
  have c6b1 : ((l1.length : Int) != 0) = true := bne_iff_ne.mpr c6
  have c6b2 : ¬ (l1 = []) := fun h_ => c6 (by rw [h_]; rfl)
  replace H := Option.bind_eq_some_iff.mp H
  obtain ⟨t605, A130, H⟩ := H
  replace H : ((impl_Moments_upTo.f k a0_0 l0_1 (wrap64 (t605 - 1))).bind fun bt606 => (if bt606.2.2.2.2.2 = true then ((impl_Moments_field.f a0_0 l0_1).bind fun t621 => ((impl_field_sum.f k t621 l1 bt606.1).bind fun t622 => (some (t622, 0)))) else (some (([] : List Int), 5)))) = some (r1, r2) := H
  have A13 := zA A130
  clear A130
  replace H := Option.bind_eq_some_iff.mp H
  obtain ⟨⟨t606, t609, t612, t613, t616, t619⟩, A140, H⟩ := H
  replace H : (if t619 = true then ((impl_Moments_field.f a0_0 l0_1).bind fun t621 => ((impl_field_sum.f k t621 l1 t606).bind fun t622 => (some (t622, 0)))) else (some (([] : List Int), 5))) = some (r1, r2) := H
  have A14 := zA A140
  clear A140
  by_cases c15 : t619 = true
  ·subst c15
   have H1 : ((impl_Moments_field.f a0_0 l0_1).bind fun t621 => ((impl_field_sum.f k t621 l1 t606).bind fun t622 => (some (t622, 0)))) = some (r1, r2) := by rw [if_pos rfl] at H; exact H
   clear H
   have H := H1
   clear H1
   replace H := Option.bind_eq_some_iff.mp H
   obtain ⟨t621, A160, H⟩ := H
   replace H : ((impl_field_sum.f k t621 l1 t606).bind fun t622 => (some (t622, 0))) = some (r1, r2) := H
   have A16 := zA A160
   clear A160
   replace H := Option.bind_eq_some_iff.mp H
   obtain ⟨t622, A170, H⟩ := H
   replace H : (some (t622, 0)) = some (r1, r2) := H
   have A17 := zA A170
   clear A170
   simp only [Option.some.injEq, Prod.mk.injEq] at H
   obtain ⟨rfl, rfl⟩ := H
   go_enter Try.func44, Try.ntmps44
   try go_wp2_with (first | ((with_reducible refine gate_dst (N := 2) rfl ?_); refine bx 2 #[.int .i64 a0_0, .slice A0_1 l0_1.length c0_1] 40 ?_; intro gb601 hg w18 hbox hb; have BK601 := zA (hbox); have GW601 := gq HB hg; have GE601 := gq HB hg; replace HB := xH HB hb; have := geI GE601; clear hb hbox hg) | ((with_reducible refine gate_dst (N := 3) rfl ?_); refine bx 3 #[.slice A1 l1.length c1] 22 ?_; intro gb602 hg w19 hbox hb; have BK602 := zA (hbox); have GW602 := gq HB hg; have GE602 := gq HB hg; replace HB := xH HB hb; have NB601_602 := zA ((by rw [hg]; exact neL BK601 : gb601 ≠ gb602)); have NB602_601 := zA ((by rw [hg]; exact neG BK601 : gb602 ≠ gb601)); replace BK601 := xB BK601 hb; have := geI GE602; clear hb hbox hg; have hnb20 := NB601_602.out; have hnc20 := NB602_601.out; have hcz21_0 := bc BK601 0; have hcz21_1 := bc BK601 1; have hfz21_0 := bf BK601 0; have hfz21_1 := bf BK601 1) | ((with_reducible refine gate_callee (f := 68) rfl ?_); refine gL (some 11) Try.func68 #[.agg #[.int .i64 a0_0, .slice A0_1 l0_1.length c0_1], (.func (.func 97) #[] #[.pointer (some ⟨gb602, 0, none⟩), .pointer (some ⟨gb601, 0, none⟩)]), .slice none 0 0] ?_; (refine (impl_momentsCode.calls k a0_0 _ _ l0_1 _ t603 _ _ ([] : List (List Int)) t604 _ ?side1 ?side2 ?side3 ?side4 ?side5 A4.out).mono ?_); (case side1 => exact uC ((Kd.C_below HR0_1.out HB.out))); (case side2 => exact HC0_1.out); (case side3 => exact FnB.of Try.func97 (by kernel_rfl) rfl (fun W_ hW_ => calls_of_args (args' := #[.pointer (some ⟨gb602, 0, none⟩), .pointer (some ⟨gb601, 0, none⟩)]) (by simp) ((impl_SumOfExpansion_1.calls _ _ _ l1 _ a0_0 _ _ l0_1 _ W_ (blk_below (g := gb602) (o := .cells #[.slice A1 l1.length c1] 22 (0, 0)) (uB BK602.out) hW_) (Kd.C_below (by exact uC ((Kd.C_below HR1.out HB.out))) hW_) (by exact HC1.out) (blk_below (g := gb601) (o := .cells #[.int .i64 a0_0, .slice A0_1 l0_1.length c0_1] 40 (0, 0)) (uB BK601.out) hW_) (Kd.C_below (by exact uC ((Kd.C_below HR0_1.out HB.out))) hW_) (by exact HC0_1.out) A3.out).mono fun e_ W2_ h_ => ⟨h_.1, h_.2⟩))); (case side4 => exact Kd.C_nil _ _); (case side5 => exact Nat.le_refl _); rintro e w22 ⟨rfl, hb⟩; refine ⟨_, rfl, ?_⟩; replace BK601 := xB BK601 hb; replace BK602 := xB BK602 hb; replace HB := xH HB hb; (try clear hb); (try clear hb2); (try clear hk); (try clear hi); have hcz23_0 := bc BK602 0; have hfz23_0 := bf BK602 0))
   replace BK601 := zA (blk_drew BK601.out)
   replace BK602 := zA (blk_drew BK602.out)
   replace HB := zA (below_drew1 HB.out)
   refine start_ (n := 11) (S := fun w' => w'.cell? ⟨gb601, 0, none⟩ = some (.int .i64 a0_0) ∧ w'.cell? ⟨gb601, 1, none⟩ = some (.slice A0_1 l0_1.length c0_1) ∧ w'.cell? ⟨gb602, 0, none⟩ = some (.slice A1 l1.length c1)) (ds := []) #[false, false, false, false, false, false, false, false, false, false, false] (by kernel_rfl) rfl rfl ⟨bcu BK601 0, bcu BK601 1, bcu BK602 0⟩ (fun hHeld => ?_); refine with_tabW impl_SumOfExpansion.tab6 impl_SumOfExpansion.bits6 (fun HT_ HW_ => ?_)
   generalize w22.drew = w24 at BK601 BK602 HB hHeld ⊢
   refine ta_ 0 19 (bl 11 1) HT_ HW_ hHeld ?_
   refine ta_ 1 20 (bl 11 3) HT_ HW_ hHeld ?_
   refine join_ (σ := Value × Value × Value × Value × Nat) 2 (bl 11 511) (fun s_ => [(21, .int .i64 t605), (23, .tuple #[.agg #[s_.1, s_.2.1, .int .i64 t612, s_.2.2.1, s_.2.2.2.1], .bool true]), (7, .pointer (some ⟨s_.2.2.2.2, 0, none⟩)), (22, .int .i64 (wrap64 (t605 - 1))), (18, .tuple #[.agg #[s_.1, s_.2.1, .int .i64 t612, s_.2.2.1, s_.2.2.2.1], .bool true]), (24, .agg #[s_.1, s_.2.1, .int .i64 t612, s_.2.2.1, s_.2.2.2.1]), (25, .bool true)]) (fun s_ w' => (w'.cell? ⟨gb601, 0, none⟩ = some (.int .i64 a0_0) ∧ w'.cell? ⟨gb601, 1, none⟩ = some (.slice A0_1 l0_1.length c0_1) ∧ w'.cell? ⟨gb602, 0, none⟩ = some (.slice A1 l1.length c1)) ∧ (Kd.N (Kd.slice 2 (Kd.int .i64)) 22 w' w.heap.size (fun k_ => some k_ ≠ (s_.2.1 : Value).ownBlock ∧ some k_ ≠ (s_.2.2.1 : Value).ownBlock ∧ some k_ ≠ (s_.2.2.2.1 : Value).ownBlock ∧ k_ ≠ gb601 ∧ k_ ≠ gb602 ∧ k_ ≠ s_.2.2.2.2) s_.1 t606) ∧ (Kd.R (Kd.int .i64) 2 w' w.heap.size (fun k_ => some k_ ≠ (s_.2.2.1 : Value).ownBlock ∧ some k_ ≠ (s_.2.2.2.1 : Value).ownBlock) s_.2.1 t609) ∧ (Kd.R (Kd.int .i64) 2 w' w.heap.size (fun k_ => some k_ ≠ (s_.2.1 : Value).ownBlock ∧ some k_ ≠ (s_.2.2.2.1 : Value).ownBlock) s_.2.2.1 t613) ∧ (Kd.R (Kd.int .i64) 2 w' w.heap.size (fun k_ => some k_ ≠ (s_.2.1 : Value).ownBlock ∧ some k_ ≠ (s_.2.2.1 : Value).ownBlock) s_.2.2.2.1 t616) ∧ (w'.heap[gb601]? = some (.cells #[.int .i64 a0_0, .slice A0_1 l0_1.length c0_1] 40 (0, 0))) ∧ (w'.heap[gb602]? = some (.cells #[.slice A1 l1.length c1] 22 (0, 0))) ∧ (w'.heap[s_.2.2.2.2]? = some (.cells #[.slice none 0 0, .slice none 0 0, .int .i64 0, .slice none 0 0, .slice none 0 0] 95 (0, 0))) ∧ (w.heap.size ≤ s_.2.2.2.2) ∧ (w.heap.size ≤ s_.2.2.2.2) ∧ (gb601 ≠ s_.2.2.2.2) ∧ (s_.2.2.2.2 ≠ gb601) ∧ (gb602 ≠ s_.2.2.2.2) ∧ (s_.2.2.2.2 ≠ gb602) ∧ (Below w.heap.size w w')) ?_ ?_
   rotate_left
   ·intro hCont
    refine two_ (i := 2) (j := 8) (Ni := some 21) (Nj := some 7) (bl 11 7) (bl 11 259) rfl rfl rfl rfl (two_of HT_.out (by kernel_rfl)) (by decide) (by decide) (fun K hK => ?_) (fun K hK => ?_)
    ·skip
     refine gS Try.func71 #[.slice A1 l1.length c1] ?_
     with_reducible refine (impl_length_int64.calls _ _ l1 t605 _ ?side1 ?side2 A13.out).mono ?_
     (case side1 => exact uC ((Kd.C_below HR1.out HB.out)))
     (case side2 => exact HC1.out)
     rintro e w' ⟨rfl, ⟨nd, rfl⟩⟩
     refine ⟨_, rfl, ?_⟩
     refine hK.out _ _ ⟨bcu BK601 0, bcu BK601 1, bcu BK602 0⟩ (fun hHeld => ?_)
     clear hK K
     refine no_ 21 ?_
     refine pu_ 3 22 (bl 11 15) HT_ ?_
     refine two_ (i := 4) (j := 8) (Ni := some 23) (Nj := some 7) (bl 11 31) (bl 11 271) rfl rfl rfl rfl (two_of HT_.out (by kernel_rfl)) (by decide) (by decide) (fun K hK => ?_) (fun K hK => ?_)
     ·skip
      refine gS Try.func88 #[.agg #[.int .i64 a0_0, .slice A0_1 l0_1.length c0_1], .int .i64 (wrap64 (t605 - 1))] ?_
      with_reducible refine (impl_Moments_upTo.calls k a0_0 _ _ l0_1 (wrap64 (t605 - 1)) t606 t609 t612 t613 t616 true _ ?side1 ?side2 A14.out).mono ?_
      (case side1 => repeat (first | exact (Kd.C_below HR0_1.out (uH HB.out)) | (with_reducible refine Kd.C_alloc ?_ _) | (with_reducible refine Kd.C_drewN ?_ _) | (with_reducible refine Kd.C_drew ?_)))
      (case side2 => exact HC0_1.out)
      rintro e w25 ⟨v607, v610, v614, v617, rfl, ho0, ho1, ho2, ho3, hb⟩
      refine ⟨_, rfl, ?_⟩
      have HO608 := zA (Kd.N_lower (Kd.N_mono (ok' := fun k_ => some k_ ≠ (v610 : Value).ownBlock ∧ some k_ ≠ (v614 : Value).ownBlock ∧ some k_ ≠ (v617 : Value).ownBlock ∧ k_ ≠ gb601 ∧ k_ ≠ gb602) ho0 (fun k_ hk_ => ⟨hk_.2.1, hk_.2.2.1, hk_.2.2.2, (Kd.freshB (g := gb601) (o := .cells #[.int .i64 a0_0, .slice A0_1 l0_1.length c0_1] 40 (0, 0)) (uB BK601.out) k_ hk_.1), (Kd.freshB (g := gb602) (o := .cells #[.slice A1 l1.length c1] 22 (0, 0)) (uB BK602.out) k_ hk_.1)⟩)) (below_size (uH HB.out)))
      have HO611 := zA (Kd.R_lower (Kd.R_mono (ok' := fun k_ => some k_ ≠ (v614 : Value).ownBlock ∧ some k_ ≠ (v617 : Value).ownBlock) ho1 (fun _ hk_ => hk_.2)) (below_size (uH HB.out)))
      have HO615 := zA (Kd.R_lower (Kd.R_mono (ok' := fun k_ => some k_ ≠ (v610 : Value).ownBlock ∧ some k_ ≠ (v617 : Value).ownBlock) ho2 (fun _ hk_ => hk_.2)) (below_size (uH HB.out)))
      have HO618 := zA (Kd.R_lower (Kd.R_mono (ok' := fun k_ => some k_ ≠ (v610 : Value).ownBlock ∧ some k_ ≠ (v614 : Value).ownBlock) ho3 (fun _ hk_ => hk_.2)) (below_size (uH HB.out)))
      replace BK601 := xB BK601 hb
      replace BK602 := xB BK602 hb
      replace HB := xH HB hb
      (try clear hb); (try clear hb2); (try clear hk); (try clear hi); (try clear ho0); (try clear ho1); (try clear ho2); (try clear ho3)
      refine hK.out _ _ ⟨bcu BK601 0, bcu BK601 1, bcu BK602 0⟩ (fun hHeld => ?_)
      clear hK K
      refine no_ 23 ?_
      refine pu_ 5 18 (bl 11 63) HT_ ?_
      refine pu_ 6 24 (bl 11 127) HT_ ?_
      refine pu_ 7 25 (bl 11 255) HT_ ?_
      refine on_ 8 (some 7) (bl 11 511) HT_ (fun K hK => ?_)
      refine box_step ?hg (N := 7) ?hd (cs := #[.slice none 0 0, .slice none 0 0, .int .i64 0, .slice none 0 0, .slice none 0 0]) (t := 95) ?hr ?_; (case hd => rfl); (case hg => rfl); (case hr => first | (go_simp; done) | (go_simp; rfl))
      intro gb620 hg w26 hbox hb
      replace HO608 := zA (Kd.N_below (Kd.N_elderB (by (with_reducible repeat (first | apply Kd.N_alloc | apply Kd.N_drewN | apply Kd.N_drew)); exact HO608.out) gb620 (Nat.le_of_eq hg.symm)) hb)
      replace HO611 := xR HO611 hb
      replace HO615 := xR HO615 hb
      replace HO618 := xR HO618 hb
      have BK620 := zA (hbox)
      have GW620 := gq HB hg
      have GE620 := gq HB hg
      replace HB := xH HB hb
      have NB601_620 := zA ((by rw [hg]; exact neL BK601 : gb601 ≠ gb620))
      have NB620_601 := zA ((by rw [hg]; exact neG BK601 : gb620 ≠ gb601))
      replace BK601 := xB BK601 hb
      have NB602_620 := zA ((by rw [hg]; exact neL BK602 : gb602 ≠ gb620))
      have NB620_602 := zA ((by rw [hg]; exact neG BK602 : gb620 ≠ gb602))
      replace BK602 := xB BK602 hb
      have := geI GE620
      clear hb hbox hg
      refine hK.out _ _ ⟨bcu BK601 0, bcu BK601 1, bcu BK602 0⟩ (fun hHeld => ?_)
      clear hK K
      refine no_ 7 ?_
      exact norm_ (by simp only [putAll, Act.put, ls, lz, ln]) (hCont (v607, v610, v614, v617, gb620) _ ⟨hHeld, (by (with_reducible repeat (first | apply Kd.N_alloc | apply Kd.N_drewN | apply Kd.N_drew)); exact Kd.N_mono HO608.out (fun _ hk => ⟨hk.1.1, ⟨hk.1.2.1, ⟨hk.1.2.2.1, ⟨hk.1.2.2.2.1, ⟨hk.1.2.2.2.2, hk.2⟩⟩⟩⟩⟩)), (uR HO611.out), (uR HO615.out), (uR HO618.out), (uB BK601.out), (uB BK602.out), (uB BK620.out), GW620.out, GE620.out, NB601_620.out, NB620_601.out, NB602_620.out, NB620_602.out, (uH HB.out)⟩)
     ·skip
      refine box_step ?hg (N := 7) ?hd (cs := #[.slice none 0 0, .slice none 0 0, .int .i64 0, .slice none 0 0, .slice none 0 0]) (t := 95) ?hr ?_; (case hd => rfl); (case hg => rfl); (case hr => first | (go_simp; done) | (go_simp; rfl))
      intro gb620 hg w25 hbox hb
      have BK620 := zA (hbox)
      have GW620 := gq HB hg
      have GE620 := gq HB hg
      replace HB := xH HB hb
      have NB601_620 := zA ((by rw [hg]; exact neL BK601 : gb601 ≠ gb620))
      have NB620_601 := zA ((by rw [hg]; exact neG BK601 : gb620 ≠ gb601))
      replace BK601 := xB BK601 hb
      have NB602_620 := zA ((by rw [hg]; exact neL BK602 : gb602 ≠ gb620))
      have NB620_602 := zA ((by rw [hg]; exact neG BK602 : gb620 ≠ gb602))
      replace BK602 := xB BK602 hb
      have := geI GE620
      clear hb hbox hg
      refine hK.out _ _ ⟨bcu BK601 0, bcu BK601 1, bcu BK602 0⟩ (fun hHeld => ?_)
      clear hK K
      refine no_ 7 ?_
      refine on_ 4 (some 23) (bl 11 287) HT_ (fun K hK => ?_)
      refine gS Try.func88 #[.agg #[.int .i64 a0_0, .slice A0_1 l0_1.length c0_1], .int .i64 (wrap64 (t605 - 1))] ?_
      with_reducible refine (impl_Moments_upTo.calls k a0_0 _ _ l0_1 (wrap64 (t605 - 1)) t606 t609 t612 t613 t616 true _ ?side1 ?side2 A14.out).mono ?_
      (case side1 => exact uC ((Kd.C_below HR0_1.out HB.out)))
      (case side2 => exact HC0_1.out)
      rintro e w26 ⟨v607, v610, v614, v617, rfl, ho0, ho1, ho2, ho3, hb⟩
      refine ⟨_, rfl, ?_⟩
      have HO608 := zA (Kd.N_lower (Kd.N_mono (ok' := fun k_ => some k_ ≠ (v610 : Value).ownBlock ∧ some k_ ≠ (v614 : Value).ownBlock ∧ some k_ ≠ (v617 : Value).ownBlock ∧ k_ ≠ gb601 ∧ k_ ≠ gb602 ∧ k_ ≠ gb620) ho0 (fun k_ hk_ => ⟨hk_.2.1, hk_.2.2.1, hk_.2.2.2, (Kd.freshB (g := gb601) (o := .cells #[.int .i64 a0_0, .slice A0_1 l0_1.length c0_1] 40 (0, 0)) (uB BK601.out) k_ hk_.1), (Kd.freshB (g := gb602) (o := .cells #[.slice A1 l1.length c1] 22 (0, 0)) (uB BK602.out) k_ hk_.1), (Kd.freshB (g := gb620) (o := .cells #[.slice none 0 0, .slice none 0 0, .int .i64 0, .slice none 0 0, .slice none 0 0] 95 (0, 0)) (uB BK620.out) k_ hk_.1)⟩)) (below_size (uH HB.out)))
      have HO611 := zA (Kd.R_lower (Kd.R_mono (ok' := fun k_ => some k_ ≠ (v614 : Value).ownBlock ∧ some k_ ≠ (v617 : Value).ownBlock) ho1 (fun _ hk_ => hk_.2)) (below_size (uH HB.out)))
      have HO615 := zA (Kd.R_lower (Kd.R_mono (ok' := fun k_ => some k_ ≠ (v610 : Value).ownBlock ∧ some k_ ≠ (v617 : Value).ownBlock) ho2 (fun _ hk_ => hk_.2)) (below_size (uH HB.out)))
      have HO618 := zA (Kd.R_lower (Kd.R_mono (ok' := fun k_ => some k_ ≠ (v610 : Value).ownBlock ∧ some k_ ≠ (v614 : Value).ownBlock) ho3 (fun _ hk_ => hk_.2)) (below_size (uH HB.out)))
      replace BK601 := xB BK601 hb
      replace BK602 := xB BK602 hb
      replace BK620 := xB BK620 hb
      replace HB := xH HB hb
      (try clear hb); (try clear hb2); (try clear hk); (try clear hi); (try clear ho0); (try clear ho1); (try clear ho2); (try clear ho3)
      refine hK.out _ _ ⟨bcu BK601 0, bcu BK601 1, bcu BK602 0⟩ (fun hHeld => ?_)
      clear hK K
      refine no_ 23 ?_
      refine pu_ 5 18 (bl 11 319) HT_ ?_
      refine pu_ 6 24 (bl 11 383) HT_ ?_
      refine pu_ 7 25 (bl 11 511) HT_ ?_
      exact norm_ (by simp only [putAll, Act.put, ls, lz, ln]) (hCont (v607, v610, v614, v617, gb620) _ ⟨hHeld, (by (with_reducible repeat (first | apply Kd.N_alloc | apply Kd.N_drewN | apply Kd.N_drew)); exact HO608.out), (uR HO611.out), (uR HO615.out), (uR HO618.out), (uB BK601.out), (uB BK602.out), (uB BK620.out), GW620.out, GE620.out, NB601_620.out, NB620_601.out, NB602_620.out, NB620_602.out, (uH HB.out)⟩)
    ·skip
     refine box_step ?hg (N := 7) ?hd (cs := #[.slice none 0 0, .slice none 0 0, .int .i64 0, .slice none 0 0, .slice none 0 0]) (t := 95) ?hr ?_; (case hd => rfl); (case hg => rfl); (case hr => first | (go_simp; done) | (go_simp; rfl))
     intro gb620 hg w25 hbox hb
     have BK620 := zA (hbox)
     have GW620 := gq HB hg
     have GE620 := gq HB hg
     replace HB := xH HB hb
     have NB601_620 := zA ((by rw [hg]; exact neL BK601 : gb601 ≠ gb620))
     have NB620_601 := zA ((by rw [hg]; exact neG BK601 : gb620 ≠ gb601))
     replace BK601 := xB BK601 hb
     have NB602_620 := zA ((by rw [hg]; exact neL BK602 : gb602 ≠ gb620))
     have NB620_602 := zA ((by rw [hg]; exact neG BK602 : gb620 ≠ gb602))
     replace BK602 := xB BK602 hb
     have := geI GE620
     clear hb hbox hg
     refine hK.out _ _ ⟨bcu BK601 0, bcu BK601 1, bcu BK602 0⟩ (fun hHeld => ?_)
     clear hK K
     refine no_ 7 ?_
     refine on_ 2 (some 21) (bl 11 263) HT_ (fun K hK => ?_)
     refine gS Try.func71 #[.slice A1 l1.length c1] ?_
     with_reducible refine (impl_length_int64.calls _ _ l1 t605 _ ?side1 ?side2 A13.out).mono ?_
     (case side1 => exact uC ((Kd.C_below HR1.out HB.out)))
     (case side2 => exact HC1.out)
     rintro e w' ⟨rfl, ⟨nd, rfl⟩⟩
     refine ⟨_, rfl, ?_⟩
     refine hK.out _ _ ⟨bcu BK601 0, bcu BK601 1, bcu BK602 0⟩ (fun hHeld => ?_)
     clear hK K
     refine no_ 21 ?_
     refine pu_ 3 22 (bl 11 271) HT_ ?_
     refine on_ 4 (some 23) (bl 11 287) HT_ (fun K hK => ?_)
     refine gS Try.func88 #[.agg #[.int .i64 a0_0, .slice A0_1 l0_1.length c0_1], .int .i64 (wrap64 (t605 - 1))] ?_
     with_reducible refine (impl_Moments_upTo.calls k a0_0 _ _ l0_1 (wrap64 (t605 - 1)) t606 t609 t612 t613 t616 true _ ?side1 ?side2 A14.out).mono ?_
     (case side1 => repeat (first | exact (Kd.C_below HR0_1.out (uH HB.out)) | (with_reducible refine Kd.C_alloc ?_ _) | (with_reducible refine Kd.C_drewN ?_ _) | (with_reducible refine Kd.C_drew ?_)))
     (case side2 => exact HC0_1.out)
     rintro e w26 ⟨v607, v610, v614, v617, rfl, ho0, ho1, ho2, ho3, hb⟩
     refine ⟨_, rfl, ?_⟩
     have HO608 := zA (Kd.N_lower (Kd.N_mono (ok' := fun k_ => some k_ ≠ (v610 : Value).ownBlock ∧ some k_ ≠ (v614 : Value).ownBlock ∧ some k_ ≠ (v617 : Value).ownBlock ∧ k_ ≠ gb601 ∧ k_ ≠ gb602 ∧ k_ ≠ gb620) ho0 (fun k_ hk_ => ⟨hk_.2.1, hk_.2.2.1, hk_.2.2.2, (Kd.freshB (g := gb601) (o := .cells #[.int .i64 a0_0, .slice A0_1 l0_1.length c0_1] 40 (0, 0)) (uB BK601.out) k_ hk_.1), (Kd.freshB (g := gb602) (o := .cells #[.slice A1 l1.length c1] 22 (0, 0)) (uB BK602.out) k_ hk_.1), (Kd.freshB (g := gb620) (o := .cells #[.slice none 0 0, .slice none 0 0, .int .i64 0, .slice none 0 0, .slice none 0 0] 95 (0, 0)) (uB BK620.out) k_ hk_.1)⟩)) (below_size (uH HB.out)))
     have HO611 := zA (Kd.R_lower (Kd.R_mono (ok' := fun k_ => some k_ ≠ (v614 : Value).ownBlock ∧ some k_ ≠ (v617 : Value).ownBlock) ho1 (fun _ hk_ => hk_.2)) (below_size (uH HB.out)))
     have HO615 := zA (Kd.R_lower (Kd.R_mono (ok' := fun k_ => some k_ ≠ (v610 : Value).ownBlock ∧ some k_ ≠ (v617 : Value).ownBlock) ho2 (fun _ hk_ => hk_.2)) (below_size (uH HB.out)))
     have HO618 := zA (Kd.R_lower (Kd.R_mono (ok' := fun k_ => some k_ ≠ (v610 : Value).ownBlock ∧ some k_ ≠ (v614 : Value).ownBlock) ho3 (fun _ hk_ => hk_.2)) (below_size (uH HB.out)))
     replace BK601 := xB BK601 hb
     replace BK602 := xB BK602 hb
     replace BK620 := xB BK620 hb
     replace HB := xH HB hb
     (try clear hb); (try clear hb2); (try clear hk); (try clear hi); (try clear ho0); (try clear ho1); (try clear ho2); (try clear ho3)
     refine hK.out _ _ ⟨bcu BK601 0, bcu BK601 1, bcu BK602 0⟩ (fun hHeld => ?_)
     clear hK K
     refine no_ 23 ?_
     refine pu_ 5 18 (bl 11 319) HT_ ?_
     refine pu_ 6 24 (bl 11 383) HT_ ?_
     refine pu_ 7 25 (bl 11 511) HT_ ?_
     exact norm_ (by simp only [putAll, Act.put, ls, lz, ln]) (hCont (v607, v610, v614, v617, gb620) _ ⟨hHeld, (by (with_reducible repeat (first | apply Kd.N_alloc | apply Kd.N_drewN | apply Kd.N_drew)); exact HO608.out), (uR HO611.out), (uR HO615.out), (uR HO618.out), (uB BK601.out), (uB BK602.out), (uB BK620.out), GW620.out, GE620.out, NB601_620.out, NB620_601.out, NB602_620.out, NB620_602.out, (uH HB.out)⟩)
   rintro ⟨v607, v610, v614, v617, gb620⟩ w27 ⟨hS_, h0_, h1_, h2_, h3_, h4_, h5_, h6_, h7_, h8_, h9_, h10_, h11_, h12_, h13_⟩
   have n0_ : Aside0 (Kd.N (Kd.slice 2 (Kd.int .i64)) 22 w27 w.heap.size (fun k_ => some k_ ≠ (v610 : Value).ownBlock ∧ some k_ ≠ (v614 : Value).ownBlock ∧ some k_ ≠ (v617 : Value).ownBlock ∧ k_ ≠ gb601 ∧ k_ ≠ gb602 ∧ k_ ≠ gb620) v607 t606) := ⟨h0_⟩
   have n1_ : Aside0 (Kd.R (Kd.int .i64) 2 w27 w.heap.size (fun k_ => some k_ ≠ (v614 : Value).ownBlock ∧ some k_ ≠ (v617 : Value).ownBlock) v610 t609) := ⟨h1_⟩
   have n2_ : Aside0 (Kd.R (Kd.int .i64) 2 w27 w.heap.size (fun k_ => some k_ ≠ (v610 : Value).ownBlock ∧ some k_ ≠ (v617 : Value).ownBlock) v614 t613) := ⟨h2_⟩
   have n3_ : Aside0 (Kd.R (Kd.int .i64) 2 w27 w.heap.size (fun k_ => some k_ ≠ (v610 : Value).ownBlock ∧ some k_ ≠ (v614 : Value).ownBlock) v617 t616) := ⟨h3_⟩
   have n4_ : Aside0 (w27.heap[gb601]? = some (.cells #[.int .i64 a0_0, .slice A0_1 l0_1.length c0_1] 40 (0, 0))) := ⟨h4_⟩
   have n5_ : Aside0 (w27.heap[gb602]? = some (.cells #[.slice A1 l1.length c1] 22 (0, 0))) := ⟨h5_⟩
   have n6_ : Aside0 (w27.heap[gb620]? = some (.cells #[.slice none 0 0, .slice none 0 0, .int .i64 0, .slice none 0 0, .slice none 0 0] 95 (0, 0))) := ⟨h6_⟩
   have n7_ : Aside0 (w.heap.size ≤ gb620) := ⟨h7_⟩
   have n8_ : Aside0 (w.heap.size ≤ gb620) := ⟨h8_⟩
   have n9_ : Aside0 (gb601 ≠ gb620) := ⟨h9_⟩
   have n10_ : Aside0 (gb620 ≠ gb601) := ⟨h10_⟩
   have n11_ : Aside0 (gb602 ≠ gb620) := ⟨h11_⟩
   have n12_ : Aside0 (gb620 ≠ gb602) := ⟨h12_⟩
   have n13_ : Aside0 (Below w.heap.size w w27) := ⟨h13_⟩
   clear BK601 BK602 HB
   clear h0_ h1_ h2_ h3_ h4_ h5_ h6_ h7_ h8_ h9_ h10_ h11_ h12_ h13_
   have HO608 := n0_
   have HO611 := n1_
   have HO615 := n2_
   have HO618 := n3_
   have BK601 := n4_
   have BK602 := n5_
   have BK620 := n6_
   have GW620 := n7_
   have GE620 := n8_
   have := geI GE620
   have NB601_620 := n9_
   have NB620_601 := n10_
   have NB602_620 := n11_
   have NB620_602 := n12_
   have HB := n13_
   clear n0_ n1_ n2_ n3_ n4_ n5_ n6_ n7_ n8_ n9_ n10_ n11_ n12_ n13_
   have hHeld : w27.cell? ⟨gb601, 0, none⟩ = some (.int .i64 a0_0) ∧ w27.cell? ⟨gb601, 1, none⟩ = some (.slice A0_1 l0_1.length c0_1) ∧ w27.cell? ⟨gb602, 0, none⟩ = some (.slice A1 l1.length c1) := hS_
   obtain ⟨Ao28, co28, eo28⟩ := Kd.N_slice HO608.out
   (first | subst eo28 | (injection eo28 with f1_ f2_ f3_; have f4_ := f1_.symm; have f5_ := f3_.symm; clear f1_ f2_ f3_; subst f4_; subst f5_))
   obtain ⟨Ao30, co30, eo30⟩ := Kd.R_slice HO611.out
   (first | subst eo30 | (injection eo30 with f1_ f2_ f3_; have f4_ := f1_.symm; have f5_ := f3_.symm; clear f1_ f2_ f3_; subst f4_; subst f5_))
   obtain ⟨Ao33, co33, eo33⟩ := Kd.R_slice HO615.out
   (first | subst eo33 | (injection eo33 with f1_ f2_ f3_; have f4_ := f1_.symm; have f5_ := f3_.symm; clear f1_ f2_ f3_; subst f4_; subst f5_))
   obtain ⟨Ao35, co35, eo35⟩ := Kd.R_slice HO618.out
   (first | subst eo35 | (injection eo35 with f1_ f2_ f3_; have f4_ := f1_.symm; have f5_ := f3_.symm; clear f1_ f2_ f3_; subst f4_; subst f5_))
   refine norm_ (a' := ?_) ?_ ?_
   rotate_left
   ·simp only [putAll, Act.put, ls, lz, ln]
    rfl
   refine on_ 9 (none) (bl 11 1023) HT_ (fun K hK => ?_)
   have hs29 : w27.cell? ⟨gb620, 0, none⟩ = some (.slice none 0 0) := (blk_cell BK620.out 0).trans rfl
   have hfs29 := bf BK620 0
   have hns29_0 := NB601_620.out; have hns29_1 := NB602_620.out; have hms29_0 := NB620_601.out; have hms29_1 := NB620_602.out
   have hs31 : w27.cell? ⟨gb620, 1, none⟩ = some (.slice none 0 0) := (blk_cell BK620.out 1).trans rfl
   have hfs31 := bf BK620 1
   have hns31_0 := NB601_620.out; have hns31_1 := NB602_620.out; have hms31_0 := NB620_601.out; have hms31_1 := NB620_602.out
   have hs32 : w27.cell? ⟨gb620, 2, none⟩ = some (.int .i64 0) := (blk_cell BK620.out 2).trans rfl
   have hfs32 := bf BK620 2
   have hns32_0 := NB601_620.out; have hns32_1 := NB602_620.out; have hms32_0 := NB620_601.out; have hms32_1 := NB620_602.out
   have hs34 : w27.cell? ⟨gb620, 3, none⟩ = some (.slice none 0 0) := (blk_cell BK620.out 3).trans rfl
   have hfs34 := bf BK620 3
   have hns34_0 := NB601_620.out; have hns34_1 := NB602_620.out; have hms34_0 := NB620_601.out; have hms34_1 := NB620_602.out
   have hs36 : w27.cell? ⟨gb620, 4, none⟩ = some (.slice none 0 0) := (blk_cell BK620.out 4).trans rfl
   have hfs36 := bf BK620 4
   have hns36_0 := NB601_620.out; have hns36_1 := NB602_620.out; have hms36_0 := NB620_601.out; have hms36_1 := NB620_602.out
   refine skip_ (w1 := ?_) (by rfl) rfl ?_ ?_
   rotate_left
   ·go_simp
    rfl
   refine hK.out _ _ ⟨((cell_far (p := ⟨gb620, _, none⟩) NB601_620.out _).trans (((cell_far (p := ⟨gb620, _, none⟩) NB601_620.out _).trans (((cell_far (p := ⟨gb620, _, none⟩) NB601_620.out _).trans (((cell_far (p := ⟨gb620, _, none⟩) NB601_620.out _).trans (((cell_far (p := ⟨gb620, _, none⟩) NB601_620.out _).trans (hHeld.1)))))))))), ((cell_far (p := ⟨gb620, _, none⟩) NB601_620.out _).trans (((cell_far (p := ⟨gb620, _, none⟩) NB601_620.out _).trans (((cell_far (p := ⟨gb620, _, none⟩) NB601_620.out _).trans (((cell_far (p := ⟨gb620, _, none⟩) NB601_620.out _).trans (((cell_far (p := ⟨gb620, _, none⟩) NB601_620.out _).trans (hHeld.2.1)))))))))), ((cell_far (p := ⟨gb620, _, none⟩) NB602_620.out _).trans (((cell_far (p := ⟨gb620, _, none⟩) NB602_620.out _).trans (((cell_far (p := ⟨gb620, _, none⟩) NB602_620.out _).trans (((cell_far (p := ⟨gb620, _, none⟩) NB602_620.out _).trans (((cell_far (p := ⟨gb620, _, none⟩) NB602_620.out _).trans (hHeld.2.2))))))))))⟩ (fun hHeld => ?_)
   clear hK K
   refine pu_ 10 8 (bl 11 2047) HT_ ?_
   refine done_ (done_of HT_.out (by kernel_rfl)) ?_
   try go_wp2
   have n0_ : Aside0 (Kd.N (Kd.slice 2 (Kd.int .i64)) 22 (((((w27.setCell ⟨gb620, 0, none⟩ (.slice Ao28 t606.length co28)).setCell ⟨gb620, 1, none⟩ (.slice Ao30 t609.length co30)).setCell ⟨gb620, 2, none⟩ (.int .i64 t612)).setCell ⟨gb620, 3, none⟩ (.slice Ao33 t613.length co33)).setCell ⟨gb620, 4, none⟩ (.slice Ao35 t616.length co35)) w.heap.size (fun k_ => ax k_ (.slice Ao30 t609.length co30) ∧ ax k_ (.slice Ao33 t613.length co33) ∧ ax k_ (.slice Ao35 t616.length co35) ∧ k_ ≠ gb601 ∧ k_ ≠ gb602 ∧ k_ ≠ gb620) (.slice Ao28 t606.length co28) t606) := ⟨by (with_reducible repeat (first | apply Kd.N_alloc | apply Kd.N_drewN | apply Kd.N_drew)); exact Kd.N_mono (Kd.N_far (p := ⟨gb620, 4, none⟩) (Kd.N_far (p := ⟨gb620, 3, none⟩) (Kd.N_far (p := ⟨gb620, 2, none⟩) (Kd.N_far (p := ⟨gb620, 1, none⟩) (Kd.N_far (p := ⟨gb620, 0, none⟩) (Kd.N_mono HO608.out (fun k_ hk => (⟨hk, hk.2.2.2.2.2⟩ : _ ∧ k_ ≠ gb620))) (fun _ hk => hk.2) (.slice Ao28 t606.length co28)) (fun _ hk => hk.2) (.slice Ao30 t609.length co30)) (fun _ hk => hk.2) (.int .i64 t612)) (fun _ hk => hk.2) (.slice Ao33 t613.length co33)) (fun _ hk => hk.2) (.slice Ao35 t616.length co35)) (fun _ hk => ⟨hk.1.1, ⟨hk.1.2.1, ⟨hk.1.2.2.1, ⟨hk.1.2.2.2.1, ⟨hk.1.2.2.2.2.1, hk.1.2.2.2.2.2⟩⟩⟩⟩⟩)⟩
   have n1_ : Aside0 (Kd.R (Kd.int .i64) 2 (((((w27.setCell ⟨gb620, 0, none⟩ (.slice Ao28 t606.length co28)).setCell ⟨gb620, 1, none⟩ (.slice Ao30 t609.length co30)).setCell ⟨gb620, 2, none⟩ (.int .i64 t612)).setCell ⟨gb620, 3, none⟩ (.slice Ao33 t613.length co33)).setCell ⟨gb620, 4, none⟩ (.slice Ao35 t616.length co35)) w.heap.size (fun k_ => ax k_ (.slice Ao33 t613.length co33) ∧ ax k_ (.slice Ao35 t616.length co35)) (.slice Ao30 t609.length co30) t609) := ⟨uR (Kd.R_mono (Kd.R_far (p := ⟨gb620, 4, none⟩) (Kd.R_far (p := ⟨gb620, 3, none⟩) (Kd.R_far (p := ⟨gb620, 2, none⟩) (Kd.R_far (p := ⟨gb620, 1, none⟩) (Kd.R_far (p := ⟨gb620, 0, none⟩) (Kd.R_types HO611.out BK620.out (by decide)) (fun _ hk => hk.2) (.slice Ao28 t606.length co28)) (fun _ hk => hk.2) (.slice Ao30 t609.length co30)) (fun _ hk => hk.2) (.int .i64 t612)) (fun _ hk => hk.2) (.slice Ao33 t613.length co33)) (fun _ hk => hk.2) (.slice Ao35 t616.length co35)) (fun _ hk => ⟨hk.1.1, hk.1.2⟩))⟩
   have n2_ : Aside0 (Kd.R (Kd.int .i64) 2 (((((w27.setCell ⟨gb620, 0, none⟩ (.slice Ao28 t606.length co28)).setCell ⟨gb620, 1, none⟩ (.slice Ao30 t609.length co30)).setCell ⟨gb620, 2, none⟩ (.int .i64 t612)).setCell ⟨gb620, 3, none⟩ (.slice Ao33 t613.length co33)).setCell ⟨gb620, 4, none⟩ (.slice Ao35 t616.length co35)) w.heap.size (fun k_ => ax k_ (.slice Ao30 t609.length co30) ∧ ax k_ (.slice Ao35 t616.length co35)) (.slice Ao33 t613.length co33) t613) := ⟨uR (Kd.R_mono (Kd.R_far (p := ⟨gb620, 4, none⟩) (Kd.R_far (p := ⟨gb620, 3, none⟩) (Kd.R_far (p := ⟨gb620, 2, none⟩) (Kd.R_far (p := ⟨gb620, 1, none⟩) (Kd.R_far (p := ⟨gb620, 0, none⟩) (Kd.R_types HO615.out BK620.out (by decide)) (fun _ hk => hk.2) (.slice Ao28 t606.length co28)) (fun _ hk => hk.2) (.slice Ao30 t609.length co30)) (fun _ hk => hk.2) (.int .i64 t612)) (fun _ hk => hk.2) (.slice Ao33 t613.length co33)) (fun _ hk => hk.2) (.slice Ao35 t616.length co35)) (fun _ hk => ⟨hk.1.1, hk.1.2⟩))⟩
   have n3_ : Aside0 (Kd.R (Kd.int .i64) 2 (((((w27.setCell ⟨gb620, 0, none⟩ (.slice Ao28 t606.length co28)).setCell ⟨gb620, 1, none⟩ (.slice Ao30 t609.length co30)).setCell ⟨gb620, 2, none⟩ (.int .i64 t612)).setCell ⟨gb620, 3, none⟩ (.slice Ao33 t613.length co33)).setCell ⟨gb620, 4, none⟩ (.slice Ao35 t616.length co35)) w.heap.size (fun k_ => ax k_ (.slice Ao30 t609.length co30) ∧ ax k_ (.slice Ao33 t613.length co33)) (.slice Ao35 t616.length co35) t616) := ⟨uR (Kd.R_mono (Kd.R_far (p := ⟨gb620, 4, none⟩) (Kd.R_far (p := ⟨gb620, 3, none⟩) (Kd.R_far (p := ⟨gb620, 2, none⟩) (Kd.R_far (p := ⟨gb620, 1, none⟩) (Kd.R_far (p := ⟨gb620, 0, none⟩) (Kd.R_types HO618.out BK620.out (by decide)) (fun _ hk => hk.2) (.slice Ao28 t606.length co28)) (fun _ hk => hk.2) (.slice Ao30 t609.length co30)) (fun _ hk => hk.2) (.int .i64 t612)) (fun _ hk => hk.2) (.slice Ao33 t613.length co33)) (fun _ hk => hk.2) (.slice Ao35 t616.length co35)) (fun _ hk => ⟨hk.1.1, hk.1.2⟩))⟩
   have n4_ : Aside0 ((((((w27.setCell ⟨gb620, 0, none⟩ (.slice Ao28 t606.length co28)).setCell ⟨gb620, 1, none⟩ (.slice Ao30 t609.length co30)).setCell ⟨gb620, 2, none⟩ (.int .i64 t612)).setCell ⟨gb620, 3, none⟩ (.slice Ao33 t613.length co33)).setCell ⟨gb620, 4, none⟩ (.slice Ao35 t616.length co35)).heap[gb601]? = some (.cells #[.int .i64 a0_0, .slice A0_1 l0_1.length c0_1] 40 (0, 0))) := ⟨by (repeat refine up1 ?_); refine blk_far ?_ NB601_620.out _; (repeat refine up1 ?_); refine blk_far ?_ NB601_620.out _; (repeat refine up1 ?_); refine blk_far ?_ NB601_620.out _; (repeat refine up1 ?_); refine blk_far ?_ NB601_620.out _; (repeat refine up1 ?_); refine blk_far ?_ NB601_620.out _; (repeat refine up1 ?_); exact BK601.out⟩
   have n5_ : Aside0 ((((((w27.setCell ⟨gb620, 0, none⟩ (.slice Ao28 t606.length co28)).setCell ⟨gb620, 1, none⟩ (.slice Ao30 t609.length co30)).setCell ⟨gb620, 2, none⟩ (.int .i64 t612)).setCell ⟨gb620, 3, none⟩ (.slice Ao33 t613.length co33)).setCell ⟨gb620, 4, none⟩ (.slice Ao35 t616.length co35)).heap[gb602]? = some (.cells #[.slice A1 l1.length c1] 22 (0, 0))) := ⟨by (repeat refine up1 ?_); refine blk_far ?_ NB602_620.out _; (repeat refine up1 ?_); refine blk_far ?_ NB602_620.out _; (repeat refine up1 ?_); refine blk_far ?_ NB602_620.out _; (repeat refine up1 ?_); refine blk_far ?_ NB602_620.out _; (repeat refine up1 ?_); refine blk_far ?_ NB602_620.out _; (repeat refine up1 ?_); exact BK602.out⟩
   have n6_ : Aside0 ((((((w27.setCell ⟨gb620, 0, none⟩ (.slice Ao28 t606.length co28)).setCell ⟨gb620, 1, none⟩ (.slice Ao30 t609.length co30)).setCell ⟨gb620, 2, none⟩ (.int .i64 t612)).setCell ⟨gb620, 3, none⟩ (.slice Ao33 t613.length co33)).setCell ⟨gb620, 4, none⟩ (.slice Ao35 t616.length co35)).heap[gb620]? = some (.cells #[.slice Ao28 t606.length co28, .slice Ao30 t609.length co30, .int .i64 t612, .slice Ao33 t613.length co33, .slice Ao35 t616.length co35] 95 (0, 0))) := ⟨by (repeat refine up1 ?_); refine blk_put (cs := #[.slice Ao28 t606.length co28, .slice Ao30 t609.length co30, .int .i64 t612, .slice Ao33 t613.length co33, .slice none 0 0]) ?_ 4 _ rfl; (repeat refine up1 ?_); refine blk_put (cs := #[.slice Ao28 t606.length co28, .slice Ao30 t609.length co30, .int .i64 t612, .slice none 0 0, .slice none 0 0]) ?_ 3 _ rfl; (repeat refine up1 ?_); refine blk_put (cs := #[.slice Ao28 t606.length co28, .slice Ao30 t609.length co30, .int .i64 0, .slice none 0 0, .slice none 0 0]) ?_ 2 _ rfl; (repeat refine up1 ?_); refine blk_put (cs := #[.slice Ao28 t606.length co28, .slice none 0 0, .int .i64 0, .slice none 0 0, .slice none 0 0]) ?_ 1 _ rfl; (repeat refine up1 ?_); refine blk_put (cs := #[.slice none 0 0, .slice none 0 0, .int .i64 0, .slice none 0 0, .slice none 0 0]) ?_ 0 _ rfl; (repeat refine up1 ?_); exact BK620.out⟩
   have n7_ : Aside0 (Below w.heap.size w (((((w27.setCell ⟨gb620, 0, none⟩ (.slice Ao28 t606.length co28)).setCell ⟨gb620, 1, none⟩ (.slice Ao30 t609.length co30)).setCell ⟨gb620, 2, none⟩ (.int .i64 t612)).setCell ⟨gb620, 3, none⟩ (.slice Ao33 t613.length co33)).setCell ⟨gb620, 4, none⟩ (.slice Ao35 t616.length co35))) := ⟨uH HB.out⟩
   (try clear HO608); (try clear HO611); (try clear HO615); (try clear HO618); (try clear BK601); (try clear BK602); (try clear BK620); (try clear HB)
   generalize (((((w27.setCell ⟨gb620, 0, none⟩ (.slice Ao28 t606.length co28)).setCell ⟨gb620, 1, none⟩ (.slice Ao30 t609.length co30)).setCell ⟨gb620, 2, none⟩ (.int .i64 t612)).setCell ⟨gb620, 3, none⟩ (.slice Ao33 t613.length co33)).setCell ⟨gb620, 4, none⟩ (.slice Ao35 t616.length co35)) = w37 at n0_ n1_ n2_ n3_ n4_ n5_ n6_ n7_ ⊢
   have HO608 := n0_
   have HO611 := n1_
   have HO615 := n2_
   have HO618 := n3_
   have BK601 := n4_
   have BK602 := n5_
   have BK620 := n6_
   have HB := n7_
   clear n0_ n1_ n2_ n3_ n4_ n5_ n6_ n7_
   replace HO608 := zA (Kd.N_drew HO608.out)
   replace HO611 := zA (Kd.R_drew HO611.out)
   replace HO615 := zA (Kd.R_drew HO615.out)
   replace HO618 := zA (Kd.R_drew HO618.out)
   replace BK601 := zA (blk_drew BK601.out)
   replace BK602 := zA (blk_drew BK602.out)
   replace BK620 := zA (blk_drew BK620.out)
   replace HB := zA (below_drew1 HB.out)
   refine start_ (n := 8) (S := fun w' => w'.cell? ⟨gb601, 0, none⟩ = some (.int .i64 a0_0) ∧ w'.cell? ⟨gb601, 1, none⟩ = some (.slice A0_1 l0_1.length c0_1) ∧ w'.cell? ⟨gb602, 0, none⟩ = some (.slice A1 l1.length c1) ∧ w'.cell? ⟨gb620, 0, none⟩ = some (.slice Ao28 t606.length co28) ∧ w'.cell? ⟨gb620, 1, none⟩ = some (.slice Ao30 t609.length co30) ∧ w'.cell? ⟨gb620, 2, none⟩ = some (.int .i64 t612) ∧ w'.cell? ⟨gb620, 3, none⟩ = some (.slice Ao33 t613.length co33) ∧ w'.cell? ⟨gb620, 4, none⟩ = some (.slice Ao35 t616.length co35)) (ds := []) #[false, false, false, false, false, false, false, false] (by kernel_rfl) rfl rfl ⟨bcu BK601 0, bcu BK601 1, bcu BK602 0, bcu BK620 0, bcu BK620 1, bcu BK620 2, bcu BK620 3, bcu BK620 4⟩ (fun hHeld => ?_); refine with_tabW impl_SumOfExpansion.tab9 impl_SumOfExpansion.bits9 (fun HT_ HW_ => ?_)
   generalize w37.drew = w38 at HO608 HO611 HO615 HO618 BK601 BK602 BK620 HB hHeld ⊢
   refine pu_ 3 31 (bl 8 8) HT_ ?_
   refine ta_ 0 28 (bl 8 9) HT_ HW_ hHeld ?_
   refine ta_ 2 30 (bl 8 13) HT_ HW_ hHeld ?_
   refine ta_ 4 32 (bl 8 29) HT_ HW_ hHeld ?_
   refine on_ 1 (some 29) (bl 8 31) HT_ (fun K hK => ?_)
   refine gS Try.func75 #[.agg #[.int .i64 a0_0, .slice A0_1 l0_1.length c0_1]] ?_
   with_reducible refine (impl_Moments_field.calls a0_0 _ _ l0_1 t621 _ ?side1 ?side2 A16.out).mono ?_
   (case side1 => exact uC ((Kd.C_below HR0_1.out HB.out)))
   (case side2 => exact HC0_1.out)
   rintro e w39 ⟨rfl, hb⟩
   refine ⟨_, rfl, ?_⟩
   replace HO608 := zA (Kd.N_below (by (with_reducible repeat (first | apply Kd.N_alloc | apply Kd.N_drewN | apply Kd.N_drew)); exact HO608.out) hb)
   replace HO611 := xR HO611 hb
   replace HO615 := xR HO615 hb
   replace HO618 := xR HO618 hb
   replace BK601 := xB BK601 hb
   replace BK602 := xB BK602 hb
   replace BK620 := xB BK620 hb
   replace HB := xH HB hb
   (try clear hb); (try clear hb2); (try clear hk); (try clear hi)
   refine hK.out _ _ ⟨bcu BK601 0, bcu BK601 1, bcu BK602 0, bcu BK620 0, bcu BK620 1, bcu BK620 2, bcu BK620 3, bcu BK620 4⟩ (fun hHeld => ?_)
   clear hK K
   refine no_ 29 ?_
   refine on_ 5 (some 33) (bl 8 63) HT_ (fun K hK => ?_)
   refine gS Try.func100 #[.int .i64 t621, .slice A1 l1.length c1, .slice Ao28 t606.length co28] ?_
   with_reducible refine (impl_field_sum.calls k t621 _ _ l1 _ _ t606 t622 _ ?side1 ?side2 ?side3 ?side4 A17.out).mono ?_
   (case side1 => exact uC ((Kd.C_below HR1.out HB.out)))
   (case side2 => exact HC1.out)
   (case side3 => exact uC ((Kd.N_reads' HO608.out).2.2))
   (case side4 => exact (Kd.N_reads' HO608.out).2.1)
   rintro e w40 ⟨v623, rfl, ho0, hb⟩
   refine ⟨_, rfl, ?_⟩
   replace HO608 := zA (Kd.N_elder' (by (with_reducible repeat (first | apply Kd.N_alloc | apply Kd.N_drewN | apply Kd.N_drew)); exact HO608.out) (Kd.R_base ho0) hb)
   have HO624 := zA (Kd.R_lower (Kd.R_new' (Kd.R_new' (Kd.R_new' ho0 (Kd.R_lt (uR HO611.out))) (Kd.R_lt (uR HO615.out))) (Kd.R_lt (uR HO618.out))) (below_size (uH HB.out)))
   replace HO611 := zA (Kd.R_elder' (uR HO611.out) (Kd.R_base ho0) hb)
   replace HO615 := zA (Kd.R_elder' (uR HO615.out) (Kd.R_base ho0) hb)
   replace HO618 := zA (Kd.R_elder' (uR HO618.out) (Kd.R_base ho0) hb)
   replace BK601 := xB BK601 hb
   replace BK602 := xB BK602 hb
   replace BK620 := xB BK620 hb
   replace HB := xH HB hb
   (try clear hb); (try clear hb2); (try clear hk); (try clear hi); (try clear ho0)
   refine hK.out _ _ ⟨bcu BK601 0, bcu BK601 1, bcu BK602 0, bcu BK620 0, bcu BK620 1, bcu BK620 2, bcu BK620 3, bcu BK620 4⟩ (fun hHeld => ?_)
   clear hK K
   refine no_ 33 ?_
   refine pu_ 6 4 (bl 8 127) HT_ ?_
   refine pu_ 7 5 (bl 8 255) HT_ ?_
   refine done_ (done_of HT_.out (by kernel_rfl)) ?_
   try go_wp2
   go_ret2
   exact ⟨_, by first | rfl | (simp [errW_none, errW_some] <;> rfl) | (simp [*, errW_none, errW_some] <;> rfl), uR (Kd.R_mono HO624.out (fun _ hk => trivial)), uH HB.out⟩
  ·replace c15 := Bool.eq_false_iff.mpr c15
   subst c15
   have H1 : (some (([] : List Int), 5)) = some (r1, r2) := by rw [if_neg (show ¬ (false = true) by decide)] at H; exact H
   clear H
   have H := H1
   clear H1
   simp only [Option.some.injEq, Prod.mk.injEq] at H
   obtain ⟨rfl, rfl⟩ := H
   go_enter Try.func44, Try.ntmps44
   try go_wp2_with (first | ((with_reducible refine gate_dst (N := 2) rfl ?_); refine bx 2 #[.int .i64 a0_0, .slice A0_1 l0_1.length c0_1] 40 ?_; intro gb601 hg w41 hbox hb; have BK601 := zA (hbox); have GW601 := gq HB hg; have GE601 := gq HB hg; replace HB := xH HB hb; have := geI GE601; clear hb hbox hg) | ((with_reducible refine gate_dst (N := 3) rfl ?_); refine bx 3 #[.slice A1 l1.length c1] 22 ?_; intro gb602 hg w42 hbox hb; have BK602 := zA (hbox); have GW602 := gq HB hg; have GE602 := gq HB hg; replace HB := xH HB hb; have NB601_602 := zA ((by rw [hg]; exact neL BK601 : gb601 ≠ gb602)); have NB602_601 := zA ((by rw [hg]; exact neG BK601 : gb602 ≠ gb601)); replace BK601 := xB BK601 hb; have := geI GE602; clear hb hbox hg; have hnb43 := NB601_602.out; have hnc43 := NB602_601.out; have hcz44_0 := bc BK601 0; have hcz44_1 := bc BK601 1; have hfz44_0 := bf BK601 0; have hfz44_1 := bf BK601 1) | ((with_reducible refine gate_callee (f := 68) rfl ?_); refine gL (some 11) Try.func68 #[.agg #[.int .i64 a0_0, .slice A0_1 l0_1.length c0_1], (.func (.func 97) #[] #[.pointer (some ⟨gb602, 0, none⟩), .pointer (some ⟨gb601, 0, none⟩)]), .slice none 0 0] ?_; (refine (impl_momentsCode.calls k a0_0 _ _ l0_1 _ t603 _ _ ([] : List (List Int)) t604 _ ?side1 ?side2 ?side3 ?side4 ?side5 A4.out).mono ?_); (case side1 => exact uC ((Kd.C_below HR0_1.out HB.out))); (case side2 => exact HC0_1.out); (case side3 => exact FnB.of Try.func97 (by kernel_rfl) rfl (fun W_ hW_ => calls_of_args (args' := #[.pointer (some ⟨gb602, 0, none⟩), .pointer (some ⟨gb601, 0, none⟩)]) (by simp) ((impl_SumOfExpansion_1.calls _ _ _ l1 _ a0_0 _ _ l0_1 _ W_ (blk_below (g := gb602) (o := .cells #[.slice A1 l1.length c1] 22 (0, 0)) (uB BK602.out) hW_) (Kd.C_below (by exact uC ((Kd.C_below HR1.out HB.out))) hW_) (by exact HC1.out) (blk_below (g := gb601) (o := .cells #[.int .i64 a0_0, .slice A0_1 l0_1.length c0_1] 40 (0, 0)) (uB BK601.out) hW_) (Kd.C_below (by exact uC ((Kd.C_below HR0_1.out HB.out))) hW_) (by exact HC0_1.out) A3.out).mono fun e_ W2_ h_ => ⟨h_.1, h_.2⟩))); (case side4 => exact Kd.C_nil _ _); (case side5 => exact Nat.le_refl _); rintro e w45 ⟨rfl, hb⟩; refine ⟨_, rfl, ?_⟩; replace BK601 := xB BK601 hb; replace BK602 := xB BK602 hb; replace HB := xH HB hb; (try clear hb); (try clear hb2); (try clear hk); (try clear hi); have hcz46_0 := bc BK602 0; have hfz46_0 := bf BK602 0))
   replace BK601 := zA (blk_drew BK601.out)
   replace BK602 := zA (blk_drew BK602.out)
   replace HB := zA (below_drew1 HB.out)
   refine start_ (n := 11) (S := fun w' => w'.cell? ⟨gb601, 0, none⟩ = some (.int .i64 a0_0) ∧ w'.cell? ⟨gb601, 1, none⟩ = some (.slice A0_1 l0_1.length c0_1) ∧ w'.cell? ⟨gb602, 0, none⟩ = some (.slice A1 l1.length c1)) (ds := []) #[false, false, false, false, false, false, false, false, false, false, false] (by kernel_rfl) rfl rfl ⟨bcu BK601 0, bcu BK601 1, bcu BK602 0⟩ (fun hHeld => ?_); refine with_tabW impl_SumOfExpansion.tab6 impl_SumOfExpansion.bits6 (fun HT_ HW_ => ?_)
   generalize w45.drew = w47 at BK601 BK602 HB hHeld ⊢
   refine ta_ 0 19 (bl 11 1) HT_ HW_ hHeld ?_
   refine ta_ 1 20 (bl 11 3) HT_ HW_ hHeld ?_
   refine join_ (σ := Value × Value × Value × Value × Nat) 2 (bl 11 511) (fun s_ => [(21, .int .i64 t605), (23, .tuple #[.agg #[s_.1, s_.2.1, .int .i64 t612, s_.2.2.1, s_.2.2.2.1], .bool false]), (7, .pointer (some ⟨s_.2.2.2.2, 0, none⟩)), (22, .int .i64 (wrap64 (t605 - 1))), (18, .tuple #[.agg #[s_.1, s_.2.1, .int .i64 t612, s_.2.2.1, s_.2.2.2.1], .bool false]), (24, .agg #[s_.1, s_.2.1, .int .i64 t612, s_.2.2.1, s_.2.2.2.1]), (25, .bool false)]) (fun s_ w' => (w'.cell? ⟨gb601, 0, none⟩ = some (.int .i64 a0_0) ∧ w'.cell? ⟨gb601, 1, none⟩ = some (.slice A0_1 l0_1.length c0_1) ∧ w'.cell? ⟨gb602, 0, none⟩ = some (.slice A1 l1.length c1)) ∧ (Kd.N (Kd.slice 2 (Kd.int .i64)) 22 w' w.heap.size (fun k_ => some k_ ≠ (s_.2.1 : Value).ownBlock ∧ some k_ ≠ (s_.2.2.1 : Value).ownBlock ∧ some k_ ≠ (s_.2.2.2.1 : Value).ownBlock ∧ k_ ≠ gb601 ∧ k_ ≠ gb602 ∧ k_ ≠ s_.2.2.2.2) s_.1 t606) ∧ (Kd.R (Kd.int .i64) 2 w' w.heap.size (fun k_ => some k_ ≠ (s_.2.2.1 : Value).ownBlock ∧ some k_ ≠ (s_.2.2.2.1 : Value).ownBlock) s_.2.1 t609) ∧ (Kd.R (Kd.int .i64) 2 w' w.heap.size (fun k_ => some k_ ≠ (s_.2.1 : Value).ownBlock ∧ some k_ ≠ (s_.2.2.2.1 : Value).ownBlock) s_.2.2.1 t613) ∧ (Kd.R (Kd.int .i64) 2 w' w.heap.size (fun k_ => some k_ ≠ (s_.2.1 : Value).ownBlock ∧ some k_ ≠ (s_.2.2.1 : Value).ownBlock) s_.2.2.2.1 t616) ∧ (w'.heap[gb601]? = some (.cells #[.int .i64 a0_0, .slice A0_1 l0_1.length c0_1] 40 (0, 0))) ∧ (w'.heap[gb602]? = some (.cells #[.slice A1 l1.length c1] 22 (0, 0))) ∧ (w'.heap[s_.2.2.2.2]? = some (.cells #[.slice none 0 0, .slice none 0 0, .int .i64 0, .slice none 0 0, .slice none 0 0] 95 (0, 0))) ∧ (w.heap.size ≤ s_.2.2.2.2) ∧ (w.heap.size ≤ s_.2.2.2.2) ∧ (gb601 ≠ s_.2.2.2.2) ∧ (s_.2.2.2.2 ≠ gb601) ∧ (gb602 ≠ s_.2.2.2.2) ∧ (s_.2.2.2.2 ≠ gb602) ∧ (Below w.heap.size w w')) ?_ ?_
   rotate_left
   ·intro hCont
    refine two_ (i := 2) (j := 8) (Ni := some 21) (Nj := some 7) (bl 11 7) (bl 11 259) rfl rfl rfl rfl (two_of HT_.out (by kernel_rfl)) (by decide) (by decide) (fun K hK => ?_) (fun K hK => ?_)
    ·skip
     refine gS Try.func71 #[.slice A1 l1.length c1] ?_
     with_reducible refine (impl_length_int64.calls _ _ l1 t605 _ ?side1 ?side2 A13.out).mono ?_
     (case side1 => exact uC ((Kd.C_below HR1.out HB.out)))
     (case side2 => exact HC1.out)
     rintro e w' ⟨rfl, ⟨nd, rfl⟩⟩
     refine ⟨_, rfl, ?_⟩
     refine hK.out _ _ ⟨bcu BK601 0, bcu BK601 1, bcu BK602 0⟩ (fun hHeld => ?_)
     clear hK K
     refine no_ 21 ?_
     refine pu_ 3 22 (bl 11 15) HT_ ?_
     refine two_ (i := 4) (j := 8) (Ni := some 23) (Nj := some 7) (bl 11 31) (bl 11 271) rfl rfl rfl rfl (two_of HT_.out (by kernel_rfl)) (by decide) (by decide) (fun K hK => ?_) (fun K hK => ?_)
     ·skip
      refine gS Try.func88 #[.agg #[.int .i64 a0_0, .slice A0_1 l0_1.length c0_1], .int .i64 (wrap64 (t605 - 1))] ?_
      with_reducible refine (impl_Moments_upTo.calls k a0_0 _ _ l0_1 (wrap64 (t605 - 1)) t606 t609 t612 t613 t616 false _ ?side1 ?side2 A14.out).mono ?_
      (case side1 => repeat (first | exact (Kd.C_below HR0_1.out (uH HB.out)) | (with_reducible refine Kd.C_alloc ?_ _) | (with_reducible refine Kd.C_drewN ?_ _) | (with_reducible refine Kd.C_drew ?_)))
      (case side2 => exact HC0_1.out)
      rintro e w48 ⟨v607, v610, v614, v617, rfl, ho0, ho1, ho2, ho3, hb⟩
      refine ⟨_, rfl, ?_⟩
      have HO608 := zA (Kd.N_lower (Kd.N_mono (ok' := fun k_ => some k_ ≠ (v610 : Value).ownBlock ∧ some k_ ≠ (v614 : Value).ownBlock ∧ some k_ ≠ (v617 : Value).ownBlock ∧ k_ ≠ gb601 ∧ k_ ≠ gb602) ho0 (fun k_ hk_ => ⟨hk_.2.1, hk_.2.2.1, hk_.2.2.2, (Kd.freshB (g := gb601) (o := .cells #[.int .i64 a0_0, .slice A0_1 l0_1.length c0_1] 40 (0, 0)) (uB BK601.out) k_ hk_.1), (Kd.freshB (g := gb602) (o := .cells #[.slice A1 l1.length c1] 22 (0, 0)) (uB BK602.out) k_ hk_.1)⟩)) (below_size (uH HB.out)))
      have HO611 := zA (Kd.R_lower (Kd.R_mono (ok' := fun k_ => some k_ ≠ (v614 : Value).ownBlock ∧ some k_ ≠ (v617 : Value).ownBlock) ho1 (fun _ hk_ => hk_.2)) (below_size (uH HB.out)))
      have HO615 := zA (Kd.R_lower (Kd.R_mono (ok' := fun k_ => some k_ ≠ (v610 : Value).ownBlock ∧ some k_ ≠ (v617 : Value).ownBlock) ho2 (fun _ hk_ => hk_.2)) (below_size (uH HB.out)))
      have HO618 := zA (Kd.R_lower (Kd.R_mono (ok' := fun k_ => some k_ ≠ (v610 : Value).ownBlock ∧ some k_ ≠ (v614 : Value).ownBlock) ho3 (fun _ hk_ => hk_.2)) (below_size (uH HB.out)))
      replace BK601 := xB BK601 hb
      replace BK602 := xB BK602 hb
      replace HB := xH HB hb
      (try clear hb); (try clear hb2); (try clear hk); (try clear hi); (try clear ho0); (try clear ho1); (try clear ho2); (try clear ho3)
      refine hK.out _ _ ⟨bcu BK601 0, bcu BK601 1, bcu BK602 0⟩ (fun hHeld => ?_)
      clear hK K
      refine no_ 23 ?_
      refine pu_ 5 18 (bl 11 63) HT_ ?_
      refine pu_ 6 24 (bl 11 127) HT_ ?_
      refine pu_ 7 25 (bl 11 255) HT_ ?_
      refine on_ 8 (some 7) (bl 11 511) HT_ (fun K hK => ?_)
      refine box_step ?hg (N := 7) ?hd (cs := #[.slice none 0 0, .slice none 0 0, .int .i64 0, .slice none 0 0, .slice none 0 0]) (t := 95) ?hr ?_; (case hd => rfl); (case hg => rfl); (case hr => first | (go_simp; done) | (go_simp; rfl))
      intro gb620 hg w49 hbox hb
      replace HO608 := zA (Kd.N_below (Kd.N_elderB (by (with_reducible repeat (first | apply Kd.N_alloc | apply Kd.N_drewN | apply Kd.N_drew)); exact HO608.out) gb620 (Nat.le_of_eq hg.symm)) hb)
      replace HO611 := xR HO611 hb
      replace HO615 := xR HO615 hb
      replace HO618 := xR HO618 hb
      have BK620 := zA (hbox)
      have GW620 := gq HB hg
      have GE620 := gq HB hg
      replace HB := xH HB hb
      have NB601_620 := zA ((by rw [hg]; exact neL BK601 : gb601 ≠ gb620))
      have NB620_601 := zA ((by rw [hg]; exact neG BK601 : gb620 ≠ gb601))
      replace BK601 := xB BK601 hb
      have NB602_620 := zA ((by rw [hg]; exact neL BK602 : gb602 ≠ gb620))
      have NB620_602 := zA ((by rw [hg]; exact neG BK602 : gb620 ≠ gb602))
      replace BK602 := xB BK602 hb
      have := geI GE620
      clear hb hbox hg
      refine hK.out _ _ ⟨bcu BK601 0, bcu BK601 1, bcu BK602 0⟩ (fun hHeld => ?_)
      clear hK K
      refine no_ 7 ?_
      exact norm_ (by simp only [putAll, Act.put, ls, lz, ln]) (hCont (v607, v610, v614, v617, gb620) _ ⟨hHeld, (by (with_reducible repeat (first | apply Kd.N_alloc | apply Kd.N_drewN | apply Kd.N_drew)); exact Kd.N_mono HO608.out (fun _ hk => ⟨hk.1.1, ⟨hk.1.2.1, ⟨hk.1.2.2.1, ⟨hk.1.2.2.2.1, ⟨hk.1.2.2.2.2, hk.2⟩⟩⟩⟩⟩)), (uR HO611.out), (uR HO615.out), (uR HO618.out), (uB BK601.out), (uB BK602.out), (uB BK620.out), GW620.out, GE620.out, NB601_620.out, NB620_601.out, NB602_620.out, NB620_602.out, (uH HB.out)⟩)
     ·skip
      refine box_step ?hg (N := 7) ?hd (cs := #[.slice none 0 0, .slice none 0 0, .int .i64 0, .slice none 0 0, .slice none 0 0]) (t := 95) ?hr ?_; (case hd => rfl); (case hg => rfl); (case hr => first | (go_simp; done) | (go_simp; rfl))
      intro gb620 hg w48 hbox hb
      have BK620 := zA (hbox)
      have GW620 := gq HB hg
      have GE620 := gq HB hg
      replace HB := xH HB hb
      have NB601_620 := zA ((by rw [hg]; exact neL BK601 : gb601 ≠ gb620))
      have NB620_601 := zA ((by rw [hg]; exact neG BK601 : gb620 ≠ gb601))
      replace BK601 := xB BK601 hb
      have NB602_620 := zA ((by rw [hg]; exact neL BK602 : gb602 ≠ gb620))
      have NB620_602 := zA ((by rw [hg]; exact neG BK602 : gb620 ≠ gb602))
      replace BK602 := xB BK602 hb
      have := geI GE620
      clear hb hbox hg
      refine hK.out _ _ ⟨bcu BK601 0, bcu BK601 1, bcu BK602 0⟩ (fun hHeld => ?_)
      clear hK K
      refine no_ 7 ?_
      refine on_ 4 (some 23) (bl 11 287) HT_ (fun K hK => ?_)
      refine gS Try.func88 #[.agg #[.int .i64 a0_0, .slice A0_1 l0_1.length c0_1], .int .i64 (wrap64 (t605 - 1))] ?_
      with_reducible refine (impl_Moments_upTo.calls k a0_0 _ _ l0_1 (wrap64 (t605 - 1)) t606 t609 t612 t613 t616 false _ ?side1 ?side2 A14.out).mono ?_
      (case side1 => exact uC ((Kd.C_below HR0_1.out HB.out)))
      (case side2 => exact HC0_1.out)
      rintro e w49 ⟨v607, v610, v614, v617, rfl, ho0, ho1, ho2, ho3, hb⟩
      refine ⟨_, rfl, ?_⟩
      have HO608 := zA (Kd.N_lower (Kd.N_mono (ok' := fun k_ => some k_ ≠ (v610 : Value).ownBlock ∧ some k_ ≠ (v614 : Value).ownBlock ∧ some k_ ≠ (v617 : Value).ownBlock ∧ k_ ≠ gb601 ∧ k_ ≠ gb602 ∧ k_ ≠ gb620) ho0 (fun k_ hk_ => ⟨hk_.2.1, hk_.2.2.1, hk_.2.2.2, (Kd.freshB (g := gb601) (o := .cells #[.int .i64 a0_0, .slice A0_1 l0_1.length c0_1] 40 (0, 0)) (uB BK601.out) k_ hk_.1), (Kd.freshB (g := gb602) (o := .cells #[.slice A1 l1.length c1] 22 (0, 0)) (uB BK602.out) k_ hk_.1), (Kd.freshB (g := gb620) (o := .cells #[.slice none 0 0, .slice none 0 0, .int .i64 0, .slice none 0 0, .slice none 0 0] 95 (0, 0)) (uB BK620.out) k_ hk_.1)⟩)) (below_size (uH HB.out)))
      have HO611 := zA (Kd.R_lower (Kd.R_mono (ok' := fun k_ => some k_ ≠ (v614 : Value).ownBlock ∧ some k_ ≠ (v617 : Value).ownBlock) ho1 (fun _ hk_ => hk_.2)) (below_size (uH HB.out)))
      have HO615 := zA (Kd.R_lower (Kd.R_mono (ok' := fun k_ => some k_ ≠ (v610 : Value).ownBlock ∧ some k_ ≠ (v617 : Value).ownBlock) ho2 (fun _ hk_ => hk_.2)) (below_size (uH HB.out)))
      have HO618 := zA (Kd.R_lower (Kd.R_mono (ok' := fun k_ => some k_ ≠ (v610 : Value).ownBlock ∧ some k_ ≠ (v614 : Value).ownBlock) ho3 (fun _ hk_ => hk_.2)) (below_size (uH HB.out)))
      replace BK601 := xB BK601 hb
      replace BK602 := xB BK602 hb
      replace BK620 := xB BK620 hb
      replace HB := xH HB hb
      (try clear hb); (try clear hb2); (try clear hk); (try clear hi); (try clear ho0); (try clear ho1); (try clear ho2); (try clear ho3)
      refine hK.out _ _ ⟨bcu BK601 0, bcu BK601 1, bcu BK602 0⟩ (fun hHeld => ?_)
      clear hK K
      refine no_ 23 ?_
      refine pu_ 5 18 (bl 11 319) HT_ ?_
      refine pu_ 6 24 (bl 11 383) HT_ ?_
      refine pu_ 7 25 (bl 11 511) HT_ ?_
      exact norm_ (by simp only [putAll, Act.put, ls, lz, ln]) (hCont (v607, v610, v614, v617, gb620) _ ⟨hHeld, (by (with_reducible repeat (first | apply Kd.N_alloc | apply Kd.N_drewN | apply Kd.N_drew)); exact HO608.out), (uR HO611.out), (uR HO615.out), (uR HO618.out), (uB BK601.out), (uB BK602.out), (uB BK620.out), GW620.out, GE620.out, NB601_620.out, NB620_601.out, NB602_620.out, NB620_602.out, (uH HB.out)⟩)
    ·skip
     refine box_step ?hg (N := 7) ?hd (cs := #[.slice none 0 0, .slice none 0 0, .int .i64 0, .slice none 0 0, .slice none 0 0]) (t := 95) ?hr ?_; (case hd => rfl); (case hg => rfl); (case hr => first | (go_simp; done) | (go_simp; rfl))
     intro gb620 hg w48 hbox hb
     have BK620 := zA (hbox)
     have GW620 := gq HB hg
     have GE620 := gq HB hg
     replace HB := xH HB hb
     have NB601_620 := zA ((by rw [hg]; exact neL BK601 : gb601 ≠ gb620))
     have NB620_601 := zA ((by rw [hg]; exact neG BK601 : gb620 ≠ gb601))
     replace BK601 := xB BK601 hb
     have NB602_620 := zA ((by rw [hg]; exact neL BK602 : gb602 ≠ gb620))
     have NB620_602 := zA ((by rw [hg]; exact neG BK602 : gb620 ≠ gb602))
     replace BK602 := xB BK602 hb
     have := geI GE620
     clear hb hbox hg
     refine hK.out _ _ ⟨bcu BK601 0, bcu BK601 1, bcu BK602 0⟩ (fun hHeld => ?_)
     clear hK K
     refine no_ 7 ?_
     refine on_ 2 (some 21) (bl 11 263) HT_ (fun K hK => ?_)
     refine gS Try.func71 #[.slice A1 l1.length c1] ?_
     with_reducible refine (impl_length_int64.calls _ _ l1 t605 _ ?side1 ?side2 A13.out).mono ?_
     (case side1 => exact uC ((Kd.C_below HR1.out HB.out)))
     (case side2 => exact HC1.out)
     rintro e w' ⟨rfl, ⟨nd, rfl⟩⟩
     refine ⟨_, rfl, ?_⟩
     refine hK.out _ _ ⟨bcu BK601 0, bcu BK601 1, bcu BK602 0⟩ (fun hHeld => ?_)
     clear hK K
     refine no_ 21 ?_
     refine pu_ 3 22 (bl 11 271) HT_ ?_
     refine on_ 4 (some 23) (bl 11 287) HT_ (fun K hK => ?_)
     refine gS Try.func88 #[.agg #[.int .i64 a0_0, .slice A0_1 l0_1.length c0_1], .int .i64 (wrap64 (t605 - 1))] ?_
     with_reducible refine (impl_Moments_upTo.calls k a0_0 _ _ l0_1 (wrap64 (t605 - 1)) t606 t609 t612 t613 t616 false _ ?side1 ?side2 A14.out).mono ?_
     (case side1 => repeat (first | exact (Kd.C_below HR0_1.out (uH HB.out)) | (with_reducible refine Kd.C_alloc ?_ _) | (with_reducible refine Kd.C_drewN ?_ _) | (with_reducible refine Kd.C_drew ?_)))
     (case side2 => exact HC0_1.out)
     rintro e w49 ⟨v607, v610, v614, v617, rfl, ho0, ho1, ho2, ho3, hb⟩
     refine ⟨_, rfl, ?_⟩
     have HO608 := zA (Kd.N_lower (Kd.N_mono (ok' := fun k_ => some k_ ≠ (v610 : Value).ownBlock ∧ some k_ ≠ (v614 : Value).ownBlock ∧ some k_ ≠ (v617 : Value).ownBlock ∧ k_ ≠ gb601 ∧ k_ ≠ gb602 ∧ k_ ≠ gb620) ho0 (fun k_ hk_ => ⟨hk_.2.1, hk_.2.2.1, hk_.2.2.2, (Kd.freshB (g := gb601) (o := .cells #[.int .i64 a0_0, .slice A0_1 l0_1.length c0_1] 40 (0, 0)) (uB BK601.out) k_ hk_.1), (Kd.freshB (g := gb602) (o := .cells #[.slice A1 l1.length c1] 22 (0, 0)) (uB BK602.out) k_ hk_.1), (Kd.freshB (g := gb620) (o := .cells #[.slice none 0 0, .slice none 0 0, .int .i64 0, .slice none 0 0, .slice none 0 0] 95 (0, 0)) (uB BK620.out) k_ hk_.1)⟩)) (below_size (uH HB.out)))
     have HO611 := zA (Kd.R_lower (Kd.R_mono (ok' := fun k_ => some k_ ≠ (v614 : Value).ownBlock ∧ some k_ ≠ (v617 : Value).ownBlock) ho1 (fun _ hk_ => hk_.2)) (below_size (uH HB.out)))
     have HO615 := zA (Kd.R_lower (Kd.R_mono (ok' := fun k_ => some k_ ≠ (v610 : Value).ownBlock ∧ some k_ ≠ (v617 : Value).ownBlock) ho2 (fun _ hk_ => hk_.2)) (below_size (uH HB.out)))
     have HO618 := zA (Kd.R_lower (Kd.R_mono (ok' := fun k_ => some k_ ≠ (v610 : Value).ownBlock ∧ some k_ ≠ (v614 : Value).ownBlock) ho3 (fun _ hk_ => hk_.2)) (below_size (uH HB.out)))
     replace BK601 := xB BK601 hb
     replace BK602 := xB BK602 hb
     replace BK620 := xB BK620 hb
     replace HB := xH HB hb
     (try clear hb); (try clear hb2); (try clear hk); (try clear hi); (try clear ho0); (try clear ho1); (try clear ho2); (try clear ho3)
     refine hK.out _ _ ⟨bcu BK601 0, bcu BK601 1, bcu BK602 0⟩ (fun hHeld => ?_)
     clear hK K
     refine no_ 23 ?_
     refine pu_ 5 18 (bl 11 319) HT_ ?_
     refine pu_ 6 24 (bl 11 383) HT_ ?_
     refine pu_ 7 25 (bl 11 511) HT_ ?_
     exact norm_ (by simp only [putAll, Act.put, ls, lz, ln]) (hCont (v607, v610, v614, v617, gb620) _ ⟨hHeld, (by (with_reducible repeat (first | apply Kd.N_alloc | apply Kd.N_drewN | apply Kd.N_drew)); exact HO608.out), (uR HO611.out), (uR HO615.out), (uR HO618.out), (uB BK601.out), (uB BK602.out), (uB BK620.out), GW620.out, GE620.out, NB601_620.out, NB620_601.out, NB602_620.out, NB620_602.out, (uH HB.out)⟩)
   rintro ⟨v607, v610, v614, v617, gb620⟩ w50 ⟨hS_, h0_, h1_, h2_, h3_, h4_, h5_, h6_, h7_, h8_, h9_, h10_, h11_, h12_, h13_⟩
   have n0_ : Aside0 (Kd.N (Kd.slice 2 (Kd.int .i64)) 22 w50 w.heap.size (fun k_ => some k_ ≠ (v610 : Value).ownBlock ∧ some k_ ≠ (v614 : Value).ownBlock ∧ some k_ ≠ (v617 : Value).ownBlock ∧ k_ ≠ gb601 ∧ k_ ≠ gb602 ∧ k_ ≠ gb620) v607 t606) := ⟨h0_⟩
   have n1_ : Aside0 (Kd.R (Kd.int .i64) 2 w50 w.heap.size (fun k_ => some k_ ≠ (v614 : Value).ownBlock ∧ some k_ ≠ (v617 : Value).ownBlock) v610 t609) := ⟨h1_⟩
   have n2_ : Aside0 (Kd.R (Kd.int .i64) 2 w50 w.heap.size (fun k_ => some k_ ≠ (v610 : Value).ownBlock ∧ some k_ ≠ (v617 : Value).ownBlock) v614 t613) := ⟨h2_⟩
   have n3_ : Aside0 (Kd.R (Kd.int .i64) 2 w50 w.heap.size (fun k_ => some k_ ≠ (v610 : Value).ownBlock ∧ some k_ ≠ (v614 : Value).ownBlock) v617 t616) := ⟨h3_⟩
   have n4_ : Aside0 (w50.heap[gb601]? = some (.cells #[.int .i64 a0_0, .slice A0_1 l0_1.length c0_1] 40 (0, 0))) := ⟨h4_⟩
   have n5_ : Aside0 (w50.heap[gb602]? = some (.cells #[.slice A1 l1.length c1] 22 (0, 0))) := ⟨h5_⟩
   have n6_ : Aside0 (w50.heap[gb620]? = some (.cells #[.slice none 0 0, .slice none 0 0, .int .i64 0, .slice none 0 0, .slice none 0 0] 95 (0, 0))) := ⟨h6_⟩
   have n7_ : Aside0 (w.heap.size ≤ gb620) := ⟨h7_⟩
   have n8_ : Aside0 (w.heap.size ≤ gb620) := ⟨h8_⟩
   have n9_ : Aside0 (gb601 ≠ gb620) := ⟨h9_⟩
   have n10_ : Aside0 (gb620 ≠ gb601) := ⟨h10_⟩
   have n11_ : Aside0 (gb602 ≠ gb620) := ⟨h11_⟩
   have n12_ : Aside0 (gb620 ≠ gb602) := ⟨h12_⟩
   have n13_ : Aside0 (Below w.heap.size w w50) := ⟨h13_⟩
   clear BK601 BK602 HB
   clear h0_ h1_ h2_ h3_ h4_ h5_ h6_ h7_ h8_ h9_ h10_ h11_ h12_ h13_
   have HO608 := n0_
   have HO611 := n1_
   have HO615 := n2_
   have HO618 := n3_
   have BK601 := n4_
   have BK602 := n5_
   have BK620 := n6_
   have GW620 := n7_
   have GE620 := n8_
   have := geI GE620
   have NB601_620 := n9_
   have NB620_601 := n10_
   have NB602_620 := n11_
   have NB620_602 := n12_
   have HB := n13_
   clear n0_ n1_ n2_ n3_ n4_ n5_ n6_ n7_ n8_ n9_ n10_ n11_ n12_ n13_
   have hHeld : w50.cell? ⟨gb601, 0, none⟩ = some (.int .i64 a0_0) ∧ w50.cell? ⟨gb601, 1, none⟩ = some (.slice A0_1 l0_1.length c0_1) ∧ w50.cell? ⟨gb602, 0, none⟩ = some (.slice A1 l1.length c1) := hS_
   obtain ⟨Ao51, co51, eo51⟩ := Kd.N_slice HO608.out
   (first | subst eo51 | (injection eo51 with f1_ f2_ f3_; have f4_ := f1_.symm; have f5_ := f3_.symm; clear f1_ f2_ f3_; subst f4_; subst f5_))
   obtain ⟨Ao53, co53, eo53⟩ := Kd.R_slice HO611.out
   (first | subst eo53 | (injection eo53 with f1_ f2_ f3_; have f4_ := f1_.symm; have f5_ := f3_.symm; clear f1_ f2_ f3_; subst f4_; subst f5_))
   obtain ⟨Ao56, co56, eo56⟩ := Kd.R_slice HO615.out
   (first | subst eo56 | (injection eo56 with f1_ f2_ f3_; have f4_ := f1_.symm; have f5_ := f3_.symm; clear f1_ f2_ f3_; subst f4_; subst f5_))
   obtain ⟨Ao58, co58, eo58⟩ := Kd.R_slice HO618.out
   (first | subst eo58 | (injection eo58 with f1_ f2_ f3_; have f4_ := f1_.symm; have f5_ := f3_.symm; clear f1_ f2_ f3_; subst f4_; subst f5_))
   refine norm_ (a' := ?_) ?_ ?_
   rotate_left
   ·simp only [putAll, Act.put, ls, lz, ln]
    rfl
   refine on_ 9 (none) (bl 11 1023) HT_ (fun K hK => ?_)
   have hs52 : w50.cell? ⟨gb620, 0, none⟩ = some (.slice none 0 0) := (blk_cell BK620.out 0).trans rfl
   have hfs52 := bf BK620 0
   have hns52_0 := NB601_620.out; have hns52_1 := NB602_620.out; have hms52_0 := NB620_601.out; have hms52_1 := NB620_602.out
   have hs54 : w50.cell? ⟨gb620, 1, none⟩ = some (.slice none 0 0) := (blk_cell BK620.out 1).trans rfl
   have hfs54 := bf BK620 1
   have hns54_0 := NB601_620.out; have hns54_1 := NB602_620.out; have hms54_0 := NB620_601.out; have hms54_1 := NB620_602.out
   have hs55 : w50.cell? ⟨gb620, 2, none⟩ = some (.int .i64 0) := (blk_cell BK620.out 2).trans rfl
   have hfs55 := bf BK620 2
   have hns55_0 := NB601_620.out; have hns55_1 := NB602_620.out; have hms55_0 := NB620_601.out; have hms55_1 := NB620_602.out
   have hs57 : w50.cell? ⟨gb620, 3, none⟩ = some (.slice none 0 0) := (blk_cell BK620.out 3).trans rfl
   have hfs57 := bf BK620 3
   have hns57_0 := NB601_620.out; have hns57_1 := NB602_620.out; have hms57_0 := NB620_601.out; have hms57_1 := NB620_602.out
   have hs59 : w50.cell? ⟨gb620, 4, none⟩ = some (.slice none 0 0) := (blk_cell BK620.out 4).trans rfl
   have hfs59 := bf BK620 4
   have hns59_0 := NB601_620.out; have hns59_1 := NB602_620.out; have hms59_0 := NB620_601.out; have hms59_1 := NB620_602.out
   refine skip_ (w1 := ?_) (by rfl) rfl ?_ ?_
   rotate_left
   ·go_simp
    rfl
   refine hK.out _ _ ⟨((cell_far (p := ⟨gb620, _, none⟩) NB601_620.out _).trans (((cell_far (p := ⟨gb620, _, none⟩) NB601_620.out _).trans (((cell_far (p := ⟨gb620, _, none⟩) NB601_620.out _).trans (((cell_far (p := ⟨gb620, _, none⟩) NB601_620.out _).trans (((cell_far (p := ⟨gb620, _, none⟩) NB601_620.out _).trans (hHeld.1)))))))))), ((cell_far (p := ⟨gb620, _, none⟩) NB601_620.out _).trans (((cell_far (p := ⟨gb620, _, none⟩) NB601_620.out _).trans (((cell_far (p := ⟨gb620, _, none⟩) NB601_620.out _).trans (((cell_far (p := ⟨gb620, _, none⟩) NB601_620.out _).trans (((cell_far (p := ⟨gb620, _, none⟩) NB601_620.out _).trans (hHeld.2.1)))))))))), ((cell_far (p := ⟨gb620, _, none⟩) NB602_620.out _).trans (((cell_far (p := ⟨gb620, _, none⟩) NB602_620.out _).trans (((cell_far (p := ⟨gb620, _, none⟩) NB602_620.out _).trans (((cell_far (p := ⟨gb620, _, none⟩) NB602_620.out _).trans (((cell_far (p := ⟨gb620, _, none⟩) NB602_620.out _).trans (hHeld.2.2))))))))))⟩ (fun hHeld => ?_)
   clear hK K
   refine pu_ 10 8 (bl 11 2047) HT_ ?_
   refine done_ (done_of HT_.out (by kernel_rfl)) ?_
   try go_wp2
   go_ret2
   exact ⟨_, by first | rfl | (simp [errW_none, errW_some] <;> rfl) | (simp [*, errW_none, errW_some] <;> rfl), by first | exact Kd.R_nil _ _ _ _ _ | exact Kd.N_nil _ _ _ _ _ | exact Kd.V_nil _ _ _ _ _ | exact Kd.Q_nil _ _ _ _ _ | exact Kd.S_nil _ _ _ _ _, uH HB.out⟩
 rw [if_pos c6] at H
 have c6b0 : ((l1.length : Int) == 0) = true := beq_iff_eq.mpr c6
 have c6b1 : ((l1.length : Int) != 0) = false := bne_eq_false_iff_eq.mpr c6
 clear c6
 simp only [Option.some.injEq, Prod.mk.injEq] at H
 obtain ⟨rfl, rfl⟩ := H
 go_enter Try.func44, Try.ntmps44
 go_wp2_with (first | ((with_reducible refine gate_dst (N := 2) rfl ?_); refine bx 2 #[.int .i64 a0_0, .slice A0_1 l0_1.length c0_1] 40 ?_; intro gb601 hg w7 hbox hb; have BK601 := zA (hbox); have GW601 := gq HB hg; have GE601 := gq HB hg; replace HB := xH HB hb; have := geI GE601; clear hb hbox hg) | ((with_reducible refine gate_dst (N := 3) rfl ?_); refine bx 3 #[.slice A1 l1.length c1] 22 ?_; intro gb602 hg w8 hbox hb; have BK602 := zA (hbox); have GW602 := gq HB hg; have GE602 := gq HB hg; replace HB := xH HB hb; have NB601_602 := zA ((by rw [hg]; exact neL BK601 : gb601 ≠ gb602)); have NB602_601 := zA ((by rw [hg]; exact neG BK601 : gb602 ≠ gb601)); replace BK601 := xB BK601 hb; have := geI GE602; clear hb hbox hg; have hnb9 := NB601_602.out; have hnc9 := NB602_601.out; have hcz10_0 := bc BK601 0; have hcz10_1 := bc BK601 1; have hfz10_0 := bf BK601 0; have hfz10_1 := bf BK601 1) | ((with_reducible refine gate_callee (f := 68) rfl ?_); refine gL (some 11) Try.func68 #[.agg #[.int .i64 a0_0, .slice A0_1 l0_1.length c0_1], (.func (.func 97) #[] #[.pointer (some ⟨gb602, 0, none⟩), .pointer (some ⟨gb601, 0, none⟩)]), .slice none 0 0] ?_; (refine (impl_momentsCode.calls k a0_0 _ _ l0_1 _ t603 _ _ ([] : List (List Int)) t604 _ ?side1 ?side2 ?side3 ?side4 ?side5 A4.out).mono ?_); (case side1 => exact uC ((Kd.C_below HR0_1.out HB.out))); (case side2 => exact HC0_1.out); (case side3 => exact FnB.of Try.func97 (by kernel_rfl) rfl (fun W_ hW_ => calls_of_args (args' := #[.pointer (some ⟨gb602, 0, none⟩), .pointer (some ⟨gb601, 0, none⟩)]) (by simp) ((impl_SumOfExpansion_1.calls _ _ _ l1 _ a0_0 _ _ l0_1 _ W_ (blk_below (g := gb602) (o := .cells #[.slice A1 l1.length c1] 22 (0, 0)) (uB BK602.out) hW_) (Kd.C_below (by exact uC ((Kd.C_below HR1.out HB.out))) hW_) (by exact HC1.out) (blk_below (g := gb601) (o := .cells #[.int .i64 a0_0, .slice A0_1 l0_1.length c0_1] 40 (0, 0)) (uB BK601.out) hW_) (Kd.C_below (by exact uC ((Kd.C_below HR0_1.out HB.out))) hW_) (by exact HC0_1.out) A3.out).mono fun e_ W2_ h_ => ⟨h_.1, h_.2⟩))); (case side4 => exact Kd.C_nil _ _); (case side5 => exact Nat.le_refl _); rintro e w11 ⟨rfl, hb⟩; refine ⟨_, rfl, ?_⟩; replace BK601 := xB BK601 hb; replace BK602 := xB BK602 hb; replace HB := xH HB hb; (try clear hb); (try clear hb2); (try clear hk); (try clear hi); have hcz12_0 := bc BK602 0; have hfz12_0 := bf BK602 0))
 go_ret2
 exact ⟨_, by first | rfl | (simp [errW_none, errW_some] <;> rfl) | (simp [*, errW_none, errW_some] <;> rfl), by first | exact Kd.R_nil _ _ _ _ _ | exact Kd.N_nil _ _ _ _ _ | exact Kd.V_nil _ _ _ _ _ | exact Kd.Q_nil _ _ _ _ _ | exact Kd.S_nil _ _ _ _ _, uH HB.out⟩
end Go.Proofs.Ytfbnkebgdmfcfaa.Pr
