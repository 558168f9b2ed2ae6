/- Printed by a program of this session out of the translation: what these functions of the program compute, under the conditions that each theorem names. -/
import Derived.Test.YtfbnkebgdmfcfaaKC01
import Derived.Test.YtfbnkebgdmfcfaaKC05
import Derived.Test.YtfbnkebgdmfcfaaKFimplMomentsupTo
import Derived.Test.YtfbnkebgdmfcfaaKFimpldegree
import Derived.Test.YtfbnkebgdmfcfaaKExpandPolynomial1
namespace Go.Proofs.Ytfbnkebgdmfcfaa.Pr
open Go.RowKit Go.Proofs.YtfbnkebgdmfcfaaW.PrintWords Go.Proofs.YtfbnkebgdmfcfaaW.PrintLast Go.Proofs.YtfbnkebgdmfcfaaW.PrintMore
attribute [local go_sem] max2_int min2_int max_two min_two max_three min_three max_four min_four   -- for this text's walks alone
set_option linter.unusedVariables false
set_option linter.unusedSimpArgs false

/-! ### impl_ExpandPolynomial: function 46 -/
def impl_ExpandPolynomial.f (k : Nat) (a0_0 : Int) (l0_1 : List Int) (l1 : List Int) : Option (List Int × Int) := (impl_ExpandPolynomial_1.f l1).bind fun t718 => ((impl_momentsCode.f k a0_0 l0_1 t718 (([l1] : List (List Int)))).bind fun t722 => (if t722 = 0 then (if (l1.length : Int) = 0 then (some (([] : List Int), 0)) else ((impl_degree.f l1).bind fun t723 => ((impl_Moments_upTo.f k a0_0 l0_1 t723).bind fun bt724 => (if bt724.2.2.2.2.2 = true then ((impl_Moments_field.f a0_0 l0_1).bind fun t739 => ((impl_field_expand.f k t739 l1 bt724.1).bind fun t740 => (some (t740, 0)))) else (some (([] : List Int), 5)))))) else (some (([] : List Int), t722))))
def impl_ExpandPolynomial.T6 : Bool × List (List Nat × List Nat) := (true, [([], []), ([], []), ([1], [1]), ([0, 2, 2], [0, 2]), ([3], [3]), ([4], [4]), ([4], [4]), ([], []), ([7, 5, 3, 0, 1, 2, 3, 4, 5, 7], [5, 7]), ([6, 8, 0, 1, 2, 3, 4, 5, 6, 7, 8], [6])])
def impl_ExpandPolynomial.B6 : List Nat := [0, 0, 2, 7, 15, 31, 31, 0, 191, 511]
theorem impl_ExpandPolynomial.tab6 : rtab .any (opsOf Try.f46 6) = impl_ExpandPolynomial.T6 := by kernel_rfl
theorem impl_ExpandPolynomial.bits6 : waitsOk impl_ExpandPolynomial.T6.2 impl_ExpandPolynomial.B6 = true := by kernel_rfl
def impl_ExpandPolynomial.T9 : Bool × List (List Nat × List Nat) := (true, [([], []), ([0], [0]), ([], []), ([], []), ([3], [3]), ([1, 2, 4, 1], [1, 2, 4]), ([5, 5, 0, 1, 2, 3, 4, 5], [5]), ([6, 0, 1, 2, 3, 4, 5, 6], [])])
def impl_ExpandPolynomial.B9 : List Nat := [0, 1, 0, 0, 8, 31, 63, 127]
theorem impl_ExpandPolynomial.tab9 : rtab .any (opsOf Try.f46 9) = impl_ExpandPolynomial.T9 := by kernel_rfl
theorem impl_ExpandPolynomial.bits9 : waitsOk impl_ExpandPolynomial.T9.2 impl_ExpandPolynomial.B9 = true := by kernel_rfl
set_option maxHeartbeats 8000000 in
set_option maxRecDepth 100000 in
theorem impl_ExpandPolynomial.calls (k : Nat) (a0_0 : Int) (A0_1 : Option Addr) (c0_1 : Nat) (l0_1 : List Int) (P1_ : Nat → Prop) (A1 : Option Addr) (c1 : Nat) (l1 : List Int) (r1 : List Int) (r2 : Int) (w : World) (hr0_1 : Kd.C (Kd.int .i64) w A0_1 l0_1.length l0_1) (hc0_1 : l0_1.length ≤ c0_1) (hs1 : Kd.V (Kd.int .i64) 2 w w.heap.size (fun k_ => P1_ k_) (.slice A1 l1.length c1) l1) (h : impl_ExpandPolynomial.f k a0_0 l0_1 l1 = some (r1, r2)) :
  Calls Try.prog 46 #[.agg #[.int .i64 a0_0, .slice A0_1 l0_1.length c0_1], .slice A1 l1.length c1] w fun e w' => ∃ v0_ : Value, e = .returned (.tuple #[v0_, .int .i64 r2]) ∧ Kd.R (Kd.int .i64) 2 w' w.heap.size (fun k_ => (w.heap.size ≤ k_)) v0_ r1 ∧ Below w.heap.size w w' := by
 have hu40 := Try.underlying40
 have hu95 := Try.underlying95
 have hmf : ∀ (fn_ : Fn) (first_ cap_ : Array Value) (w_ : World), (Instr.makeFunc fn_ first_ cap_).run Try.prog w_ = .ok (.func fn_ first_ cap_) w_ := fun _ _ _ _ => rfl
 have HR0_1 := zA hr0_1
 have HC0_1 := zA hc0_1
 clear hr0_1 hc0_1
 have HO1 := zA (show Kd.V (Kd.int .i64) 2 w w.heap.size (fun k_ => (P1_ k_ ∨ w.heap.size ≤ k_)) (.slice A1 l1.length c1) l1 from Kd.V_mono hs1 (fun k_ hk => .inl hk))
 have HB := zA (Below.refl w.heap.size w)
 have H : ((impl_ExpandPolynomial_1.f l1).bind fun t718 => ((impl_momentsCode.f k a0_0 l0_1 t718 (([l1] : List (List Int)))).bind fun t722 => (if t722 = 0 then (if (l1.length : Int) = 0 then (some (([] : List Int), 0)) else ((impl_degree.f l1).bind fun t723 => ((impl_Moments_upTo.f k a0_0 l0_1 t723).bind fun bt724 => (if bt724.2.2.2.2.2 = true then ((impl_Moments_field.f a0_0 l0_1).bind fun t739 => ((impl_field_expand.f k t739 l1 bt724.1).bind fun t740 => (some (t740, 0)))) else (some (([] : List Int), 5)))))) else (some (([] : List Int), t722))))) = some (r1, r2) := h
 clear h
 replace H := Option.bind_eq_some_iff.mp H
 obtain ⟨t718, A30, H⟩ := H
 replace H : ((impl_momentsCode.f k a0_0 l0_1 t718 (([l1] : List (List Int)))).bind fun t722 => (if t722 = 0 then (if (l1.length : Int) = 0 then (some (([] : List Int), 0)) else ((impl_degree.f l1).bind fun t723 => ((impl_Moments_upTo.f k a0_0 l0_1 t723).bind fun bt724 => (if bt724.2.2.2.2.2 = true then ((impl_Moments_field.f a0_0 l0_1).bind fun t739 => ((impl_field_expand.f k t739 l1 bt724.1).bind fun t740 => (some (t740, 0)))) else (some (([] : List Int), 5)))))) else (some (([] : List Int), t722)))) = some (r1, r2) := H
 have A3 := zA A30
 clear A30
 obtain ⟨y719, hy719⟩ : ∃ y_ : List (List Int), y_ = (([l1] : List (List Int))) := ⟨_, rfl⟩
 replace H : ((impl_momentsCode.f k a0_0 l0_1 t718 y719).bind fun t722 => (if t722 = 0 then (if (l1.length : Int) = 0 then (some (([] : List Int), 0)) else ((impl_degree.f l1).bind fun t723 => ((impl_Moments_upTo.f k a0_0 l0_1 t723).bind fun bt724 => (if bt724.2.2.2.2.2 = true then ((impl_Moments_field.f a0_0 l0_1).bind fun t739 => ((impl_field_expand.f k t739 l1 bt724.1).bind fun t740 => (some (t740, 0)))) else (some (([] : List Int), 5)))))) else (some (([] : List Int), t722)))) = some (r1, r2) := by first | (rw [hy719]; exact H) | exact H
 have Ny719 := zA hy719
 clear hy719
 replace H := Option.bind_eq_some_iff.mp H
 obtain ⟨t722, A40, H⟩ := H
 replace H : (if t722 = 0 then (if (l1.length : Int) = 0 then (some (([] : List Int), 0)) else ((impl_degree.f l1).bind fun t723 => ((impl_Moments_upTo.f k a0_0 l0_1 t723).bind fun bt724 => (if bt724.2.2.2.2.2 = true then ((impl_Moments_field.f a0_0 l0_1).bind fun t739 => ((impl_field_expand.f k t739 l1 bt724.1).bind fun t740 => (some (t740, 0)))) else (some (([] : List Int), 5)))))) else (some (([] : List Int), t722))) = some (r1, r2) := H
 have A4 := zA A40
 clear A40
 by_cases c5 : t722 = 0
 rotate_left
 ·rw [if_neg c5] at H
  have c5b0 : (t722 == 0) = false := beq_eq_false_iff_ne.mpr c5
  have c5b1 : (t722 != 0) = true := bne_iff_ne.mpr c5
  simp only [Option.some.injEq, Prod.mk.injEq] at H
  obtain ⟨rfl, rfl⟩ := H
  go_enter Try.func46, Try.ntmps46
  go_wp2_with (first | ((with_reducible refine gate_dst (N := 2) rfl ?_); refine bx 2 #[.int .i64 a0_0, .slice A0_1 l0_1.length c0_1] 40 ?_; intro gb716 hg w72 hbox hb; replace HO1 := zA (Kd.V_below (Kd.V_elderB (by (with_reducible repeat (first | apply Kd.V_alloc | apply Kd.V_drewN | apply Kd.V_drew)); exact HO1.out) gb716 (Nat.le_of_eq hg.symm)) hb); have BK716 := zA (hbox); have GW716 := gq HB hg; have GE716 := gq HB hg; replace HB := xH HB hb; have := geI GE716; clear hb hbox hg) | ((with_reducible refine gate_dst (N := 3) rfl ?_); refine bx 3 #[.slice A1 l1.length c1] 22 ?_; intro gb717 hg w73 hbox hb; replace HO1 := zA (Kd.V_below (Kd.V_elderB (by (with_reducible repeat (first | apply Kd.V_alloc | apply Kd.V_drewN | apply Kd.V_drew)); exact HO1.out) gb717 (Nat.le_of_eq hg.symm)) hb); have BK717 := zA (hbox); have GW717 := gq HB hg; have GE717 := gq HB hg; replace HB := xH HB hb; have NB716_717 := zA ((by rw [hg]; exact neL BK716 : gb716 ≠ gb717)); have NB717_716 := zA ((by rw [hg]; exact neG BK716 : gb717 ≠ gb716)); replace BK716 := xB BK716 hb; have := geI GE717; clear hb hbox hg; have hnb74 := NB716_717.out; have hnc74 := NB717_716.out; have hcz75_0 := bc BK716 0; have hcz75_1 := bc BK716 1; have hfz75_0 := bf BK716 0; have hfz75_1 := bf BK716 1; have hcz76_0 := bc BK717 0; have hfz76_0 := bf BK717 0) | ((with_reducible refine gate_dst (N := 12) rfl ?_); refine Kd.N_lit (Kd.slice 2 (Kd.int .i64)) _ 22 ?hg (N' := 12) ?hd (xs := ([l1] : List (List Int))) (inner := [.slice A1 l1.length c1]) (ok := (fun k_ => (P1_ k_ ∨ w.heap.size ≤ k_) ∧ k_ ≠ gb716 ∧ k_ ≠ gb717)) (okp := (fun k_ => (P1_ k_ ∨ w.heap.size ≤ k_) ∧ k_ ≠ gb716 ∧ k_ ≠ gb717)) ?hr ?hp (fun _ hk => hk) ((show ∀ k_, w73.heap.size ≤ k_ → (fun k_ => (P1_ k_ ∨ w.heap.size ≤ k_) ∧ k_ ≠ gb716 ∧ k_ ≠ gb717) k_ from fun k_ hk => ⟨(.inr (Nat.le_trans (below_size (uH HB.out)) hk)), Kd.freshB (g := gb716) (o := .cells #[.int .i64 a0_0, .slice A0_1 l0_1.length c0_1] 40 (0, 0)) (uB BK716.out) k_ hk, Kd.freshB (g := gb717) (o := .cells #[.slice A1 l1.length c1] 22 (0, 0)) (uB BK717.out) k_ hk⟩) _ (Nat.le_refl _)) (Below.refl _ _) (Nat.le_refl _) (by simp) ?_; (case hd => rfl); (case hg => rfl); (case hr => first | (go_simp; done) | (go_simp; rfl)); (case hp => exact (Reps.one (show Kd.FK (Kd.slice 2 (Kd.int .i64)) _ _ l1 [.slice A1 l1.length c1] from (Kd.FK_slice_mk (Kd.V_reads' (Kd.V_mono (ok' := (fun k_ => (P1_ k_ ∨ w.heap.size ≤ k_) ∧ k_ ≠ gb716 ∧ k_ ≠ gb717)) (HO1.out) (fun k_ hk => ⟨hk.1.1, ⟨hk.1.2, hk.2⟩⟩))).2.1 (Kd.V_F (Kd.V_mono (ok' := (fun k_ => (P1_ k_ ∨ w.heap.size ≤ k_) ∧ k_ ≠ gb716 ∧ k_ ≠ gb717)) (HO1.out) (fun k_ hk => ⟨hk.1.1, ⟨hk.1.2, hk.2⟩⟩))))) (Reps.none _ _))); intro v720 w77 ho78 hb hg_ hnew_; clear hg_ hnew_; (first | rw [← Ny719.out] at ho78 | (simp only [Int.reduceToNat] at ho78; rw [← Ny719.out] at ho78)); replace HO1 := zA (Kd.V_elder' (by (with_reducible repeat (first | apply Kd.V_alloc | apply Kd.V_drewN | apply Kd.V_drew)); exact HO1.out) (Kd.N_base ho78) hb); have HO721 := zA (Kd.N_lower ho78 (below_size (uH HB.out))); replace BK716 := xB BK716 hb; replace BK717 := xB BK717 hb; replace HB := xH HB hb; clear hb ho78; obtain ⟨Ao79, co79, eo79⟩ := Kd.N_slice HO721.out; subst eo79) | ((with_reducible refine gate_callee (f := 68) rfl ?_); refine gL (some 13) Try.func68 #[.agg #[.int .i64 a0_0, .slice A0_1 l0_1.length c0_1], (.func (.func 103) #[] #[.pointer (some ⟨gb717, 0, none⟩)]), .slice Ao79 y719.length co79] ?_; (with_reducible refine (impl_momentsCode.calls k a0_0 _ _ l0_1 _ t718 _ _ y719 t722 _ ?side1 ?side2 ?side3 ?side4 ?side5 A4.out).mono ?_); (case side1 => exact uC ((Kd.C_below HR0_1.out HB.out))); (case side2 => exact HC0_1.out); (case side3 => exact FnB.of Try.func103 (by kernel_rfl) rfl (fun W_ hW_ => calls_of_args (args' := #[.pointer (some ⟨gb717, 0, none⟩)]) (by simp) ((impl_ExpandPolynomial_1.calls _ _ _ l1 _ W_ (blk_below (g := gb717) (o := .cells #[.slice A1 l1.length c1] 22 (0, 0)) (uB BK717.out) hW_) (Kd.C_below (by exact uC ((Kd.V_reads' HO1.out).2.2)) hW_) (by exact (Kd.V_reads' HO1.out).2.1) A3.out).mono fun e_ W2_ h_ => ⟨h_.1, h_.2.below⟩))); (case side4 => exact uC ((Kd.N_reads' HO721.out).2.2)); (case side5 => exact (Kd.N_reads' HO721.out).2.1); rintro e w80 ⟨rfl, hb⟩; refine ⟨_, rfl, ?_⟩; replace HO1 := zA (Kd.V_below (by (with_reducible repeat (first | apply Kd.V_alloc | apply Kd.V_drewN | apply Kd.V_drew)); exact HO1.out) hb); replace HO721 := zA (Kd.N_below (by (with_reducible repeat (first | apply Kd.N_alloc | apply Kd.N_drewN | apply Kd.N_drew)); exact HO721.out) hb); replace BK716 := xB BK716 hb; replace BK717 := xB BK717 hb; replace HB := xH HB hb; (try clear hb); (try clear hb2); (try clear hk); (try clear hi)))
  go_ret2
  exact ⟨_, by first | rfl | (simp [errW_none, errW_some] <;> rfl) | (simp [*, errW_none, errW_some] <;> rfl), by first | exact Kd.R_nil _ _ _ _ _ | exact Kd.N_nil _ _ _ _ _ | exact Kd.V_nil _ _ _ _ _ | exact Kd.Q_nil _ _ _ _ _ | exact Kd.S_nil _ _ _ _ _, uH HB.out⟩

 rw [if_pos c5] at H
 have c5b0 : (t722 == 0) = true := beq_iff_eq.mpr c5
 have c5b1 : (t722 != 0) = false := bne_eq_false_iff_eq.mpr c5
 clear c5
 by_cases c6 : (l1.length : Int) = 0
 rotate_left
 ·rw [if_neg c6] at H
  have c6b0 : ((l1.length : Int) == 0) = false := beq_eq_false_iff_ne.mpr c6
  have c6b1 : ((l1.length : Int) != 0) = true := bne_iff_ne.mpr c6
  have c6b2 : ¬ (l1 = []) := fun h_ => c6 (by rw [h_]; rfl)
  replace H := Option.bind_eq_some_iff.mp H
  obtain ⟨t723, A170, H⟩ := H
  replace H : ((impl_Moments_upTo.f k a0_0 l0_1 t723).bind fun bt724 => (if bt724.2.2.2.2.2 = true then ((impl_Moments_field.f a0_0 l0_1).bind fun t739 => ((impl_field_expand.f k t739 l1 bt724.1).bind fun t740 => (some (t740, 0)))) else (some (([] : List Int), 5)))) = some (r1, r2) := H
  have A17 := zA A170
  clear A170
  replace H := Option.bind_eq_some_iff.mp H
  obtain ⟨⟨t724, t727, t730, t731, t734, t737⟩, A180, H⟩ := H
  replace H : (if t737 = true then ((impl_Moments_field.f a0_0 l0_1).bind fun t739 => ((impl_field_expand.f k t739 l1 t724).bind fun t740 => (some (t740, 0)))) else (some (([] : List Int), 5))) = some (r1, r2) := H
  have A18 := zA A180
  clear A180
  by_cases c19 : t737 = true
  ·subst c19
   have H1 : ((impl_Moments_field.f a0_0 l0_1).bind fun t739 => ((impl_field_expand.f k t739 l1 t724).bind fun t740 => (some (t740, 0)))) = some (r1, r2) := by rw [if_pos rfl] at H; exact H
   clear H
   have H := H1
   clear H1
   replace H := Option.bind_eq_some_iff.mp H
   obtain ⟨t739, A200, H⟩ := H
   replace H : ((impl_field_expand.f k t739 l1 t724).bind fun t740 => (some (t740, 0))) = some (r1, r2) := H
   have A20 := zA A200
   clear A200
   replace H := Option.bind_eq_some_iff.mp H
   obtain ⟨t740, A210, H⟩ := H
   replace H : (some (t740, 0)) = some (r1, r2) := H
   have A21 := zA A210
   clear A210
   simp only [Option.some.injEq, Prod.mk.injEq] at H
   obtain ⟨rfl, rfl⟩ := H
   go_enter Try.func46, Try.ntmps46
   try go_wp2_with (first | ((with_reducible refine gate_dst (N := 2) rfl ?_); refine bx 2 #[.int .i64 a0_0, .slice A0_1 l0_1.length c0_1] 40 ?_; intro gb716 hg w22 hbox hb; replace HO1 := zA (Kd.V_below (Kd.V_elderB (by (with_reducible repeat (first | apply Kd.V_alloc | apply Kd.V_drewN | apply Kd.V_drew)); exact HO1.out) gb716 (Nat.le_of_eq hg.symm)) hb); have BK716 := zA (hbox); have GW716 := gq HB hg; have GE716 := gq HB hg; replace HB := xH HB hb; have := geI GE716; clear hb hbox hg) | ((with_reducible refine gate_dst (N := 3) rfl ?_); refine bx 3 #[.slice A1 l1.length c1] 22 ?_; intro gb717 hg w23 hbox hb; replace HO1 := zA (Kd.V_below (Kd.V_elderB (by (with_reducible repeat (first | apply Kd.V_alloc | apply Kd.V_drewN | apply Kd.V_drew)); exact HO1.out) gb717 (Nat.le_of_eq hg.symm)) hb); have BK717 := zA (hbox); have GW717 := gq HB hg; have GE717 := gq HB hg; replace HB := xH HB hb; have NB716_717 := zA ((by rw [hg]; exact neL BK716 : gb716 ≠ gb717)); have NB717_716 := zA ((by rw [hg]; exact neG BK716 : gb717 ≠ gb716)); replace BK716 := xB BK716 hb; have := geI GE717; clear hb hbox hg; have hnb24 := NB716_717.out; have hnc24 := NB717_716.out; have hcz25_0 := bc BK716 0; have hcz25_1 := bc BK716 1; have hfz25_0 := bf BK716 0; have hfz25_1 := bf BK716 1; have hcz26_0 := bc BK717 0; have hfz26_0 := bf BK717 0) | ((with_reducible refine gate_dst (N := 12) rfl ?_); refine Kd.N_lit (Kd.slice 2 (Kd.int .i64)) _ 22 ?hg (N' := 12) ?hd (xs := ([l1] : List (List Int))) (inner := [.slice A1 l1.length c1]) (ok := (fun k_ => (P1_ k_ ∨ w.heap.size ≤ k_) ∧ k_ ≠ gb716 ∧ k_ ≠ gb717)) (okp := (fun k_ => (P1_ k_ ∨ w.heap.size ≤ k_) ∧ k_ ≠ gb716 ∧ k_ ≠ gb717)) ?hr ?hp (fun _ hk => hk) ((show ∀ k_, w23.heap.size ≤ k_ → (fun k_ => (P1_ k_ ∨ w.heap.size ≤ k_) ∧ k_ ≠ gb716 ∧ k_ ≠ gb717) k_ from fun k_ hk => ⟨(.inr (Nat.le_trans (below_size (uH HB.out)) hk)), Kd.freshB (g := gb716) (o := .cells #[.int .i64 a0_0, .slice A0_1 l0_1.length c0_1] 40 (0, 0)) (uB BK716.out) k_ hk, Kd.freshB (g := gb717) (o := .cells #[.slice A1 l1.length c1] 22 (0, 0)) (uB BK717.out) k_ hk⟩) _ (Nat.le_refl _)) (Below.refl _ _) (Nat.le_refl _) (by simp) ?_; (case hd => rfl); (case hg => rfl); (case hr => first | (go_simp; done) | (go_simp; rfl)); (case hp => exact (Reps.one (show Kd.FK (Kd.slice 2 (Kd.int .i64)) _ _ l1 [.slice A1 l1.length c1] from (Kd.FK_slice_mk (Kd.V_reads' (Kd.V_mono (ok' := (fun k_ => (P1_ k_ ∨ w.heap.size ≤ k_) ∧ k_ ≠ gb716 ∧ k_ ≠ gb717)) (HO1.out) (fun k_ hk => ⟨hk.1.1, ⟨hk.1.2, hk.2⟩⟩))).2.1 (Kd.V_F (Kd.V_mono (ok' := (fun k_ => (P1_ k_ ∨ w.heap.size ≤ k_) ∧ k_ ≠ gb716 ∧ k_ ≠ gb717)) (HO1.out) (fun k_ hk => ⟨hk.1.1, ⟨hk.1.2, hk.2⟩⟩))))) (Reps.none _ _))); intro v720 w27 ho28 hb hg_ hnew_; clear hg_ hnew_; (first | rw [← Ny719.out] at ho28 | (simp only [Int.reduceToNat] at ho28; rw [← Ny719.out] at ho28)); replace HO1 := zA (Kd.V_elder' (by (with_reducible repeat (first | apply Kd.V_alloc | apply Kd.V_drewN | apply Kd.V_drew)); exact HO1.out) (Kd.N_base ho28) hb); have HO721 := zA (Kd.N_lower ho28 (below_size (uH HB.out))); replace BK716 := xB BK716 hb; replace BK717 := xB BK717 hb; replace HB := xH HB hb; clear hb ho28; obtain ⟨Ao29, co29, eo29⟩ := Kd.N_slice HO721.out; subst eo29) | ((with_reducible refine gate_callee (f := 68) rfl ?_); refine gL (some 13) Try.func68 #[.agg #[.int .i64 a0_0, .slice A0_1 l0_1.length c0_1], (.func (.func 103) #[] #[.pointer (some ⟨gb717, 0, none⟩)]), .slice Ao29 y719.length co29] ?_; (with_reducible refine (impl_momentsCode.calls k a0_0 _ _ l0_1 _ t718 _ _ y719 t722 _ ?side1 ?side2 ?side3 ?side4 ?side5 A4.out).mono ?_); (case side1 => exact uC ((Kd.C_below HR0_1.out HB.out))); (case side2 => exact HC0_1.out); (case side3 => exact FnB.of Try.func103 (by kernel_rfl) rfl (fun W_ hW_ => calls_of_args (args' := #[.pointer (some ⟨gb717, 0, none⟩)]) (by simp) ((impl_ExpandPolynomial_1.calls _ _ _ l1 _ W_ (blk_below (g := gb717) (o := .cells #[.slice A1 l1.length c1] 22 (0, 0)) (uB BK717.out) hW_) (Kd.C_below (by exact uC ((Kd.V_reads' HO1.out).2.2)) hW_) (by exact (Kd.V_reads' HO1.out).2.1) A3.out).mono fun e_ W2_ h_ => ⟨h_.1, h_.2.below⟩))); (case side4 => exact uC ((Kd.N_reads' HO721.out).2.2)); (case side5 => exact (Kd.N_reads' HO721.out).2.1); rintro e w30 ⟨rfl, hb⟩; refine ⟨_, rfl, ?_⟩; replace HO1 := zA (Kd.V_below (by (with_reducible repeat (first | apply Kd.V_alloc | apply Kd.V_drewN | apply Kd.V_drew)); exact HO1.out) hb); replace HO721 := zA (Kd.N_below (by (with_reducible repeat (first | apply Kd.N_alloc | apply Kd.N_drewN | apply Kd.N_drew)); exact HO721.out) hb); replace BK716 := xB BK716 hb; replace BK717 := xB BK717 hb; replace HB := xH HB hb; (try clear hb); (try clear hb2); (try clear hk); (try clear hi); have hcz31_0 := bc BK717 0; have hfz31_0 := bf BK717 0))
   replace HO1 := zA (Kd.V_drew HO1.out)
   replace HO721 := zA (Kd.N_drew HO721.out)
   replace BK716 := zA (blk_drew BK716.out)
   replace BK717 := zA (blk_drew BK717.out)
   replace HB := zA (below_drew1 HB.out)
   refine start_ (n := 10) (S := fun w' => w'.cell? ⟨gb716, 0, none⟩ = some (.int .i64 a0_0) ∧ w'.cell? ⟨gb716, 1, none⟩ = some (.slice A0_1 l0_1.length c0_1) ∧ w'.cell? ⟨gb717, 0, none⟩ = some (.slice A1 l1.length c1)) (ds := []) #[false, false, false, false, false, false, false, false, false, false] (by kernel_rfl) rfl rfl ⟨bcu BK716 0, bcu BK716 1, bcu BK717 0⟩ (fun hHeld => ?_); refine with_tabW impl_ExpandPolynomial.tab6 impl_ExpandPolynomial.bits6 (fun HT_ HW_ => ?_)
   generalize w30.drew = w32 at HO1 HO721 BK716 BK717 HB hHeld ⊢
   refine ta_ 0 21 (bl 10 1) HT_ HW_ hHeld ?_
   refine ta_ 1 22 (bl 10 3) HT_ HW_ hHeld ?_
   refine join_ (σ := Value × Value × Value × Value × Nat) 2 (bl 10 255) (fun s_ => [(23, .int .i64 t723), (24, .tuple #[.agg #[s_.1, s_.2.1, .int .i64 t730, s_.2.2.1, s_.2.2.2.1], .bool true]), (7, .pointer (some ⟨s_.2.2.2.2, 0, none⟩)), (20, .tuple #[.agg #[s_.1, s_.2.1, .int .i64 t730, s_.2.2.1, s_.2.2.2.1], .bool true]), (25, .agg #[s_.1, s_.2.1, .int .i64 t730, s_.2.2.1, s_.2.2.2.1]), (26, .bool true)]) (fun s_ w' => (w'.cell? ⟨gb716, 0, none⟩ = some (.int .i64 a0_0) ∧ w'.cell? ⟨gb716, 1, none⟩ = some (.slice A0_1 l0_1.length c0_1) ∧ w'.cell? ⟨gb717, 0, none⟩ = some (.slice A1 l1.length c1)) ∧ (Kd.V (Kd.int .i64) 2 w' w.heap.size (fun k_ => (P1_ k_ ∨ w.heap.size ≤ k_) ∧ ax k_ (.slice Ao29 y719.length co29) ∧ some k_ ≠ (s_.1 : Value).ownBlock ∧ some k_ ≠ (s_.2.1 : Value).ownBlock ∧ some k_ ≠ (s_.2.2.1 : Value).ownBlock ∧ some k_ ≠ (s_.2.2.2.1 : Value).ownBlock ∧ k_ ≠ gb716 ∧ k_ ≠ gb717 ∧ k_ ≠ s_.2.2.2.2) (.slice A1 l1.length c1) l1) ∧ (Kd.N (Kd.slice 2 (Kd.int .i64)) 22 w' w.heap.size (fun k_ => (P1_ k_ ∨ w.heap.size ≤ k_) ∧ some k_ ≠ (s_.1 : Value).ownBlock ∧ some k_ ≠ (s_.2.1 : Value).ownBlock ∧ some k_ ≠ (s_.2.2.1 : Value).ownBlock ∧ some k_ ≠ (s_.2.2.2.1 : Value).ownBlock ∧ k_ ≠ gb716 ∧ k_ ≠ gb717 ∧ k_ ≠ s_.2.2.2.2) (.slice Ao29 y719.length co29) y719) ∧ (Kd.N (Kd.slice 2 (Kd.int .i64)) 22 w' w.heap.size (fun k_ => (P1_ k_ ∨ w.heap.size ≤ k_) ∧ ax k_ (.slice Ao29 y719.length co29) ∧ some k_ ≠ (s_.2.1 : Value).ownBlock ∧ some k_ ≠ (s_.2.2.1 : Value).ownBlock ∧ some k_ ≠ (s_.2.2.2.1 : Value).ownBlock ∧ k_ ≠ gb716 ∧ k_ ≠ gb717 ∧ k_ ≠ s_.2.2.2.2) s_.1 t724) ∧ (Kd.R (Kd.int .i64) 2 w' w.heap.size (fun k_ => (w.heap.size ≤ k_) ∧ some k_ ≠ (s_.2.2.1 : Value).ownBlock ∧ some k_ ≠ (s_.2.2.2.1 : Value).ownBlock) s_.2.1 t727) ∧ (Kd.R (Kd.int .i64) 2 w' w.heap.size (fun k_ => (w.heap.size ≤ k_) ∧ some k_ ≠ (s_.2.1 : Value).ownBlock ∧ some k_ ≠ (s_.2.2.2.1 : Value).ownBlock) s_.2.2.1 t731) ∧ (Kd.R (Kd.int .i64) 2 w' w.heap.size (fun k_ => (w.heap.size ≤ k_) ∧ some k_ ≠ (s_.2.1 : Value).ownBlock ∧ some k_ ≠ (s_.2.2.1 : Value).ownBlock) s_.2.2.2.1 t734) ∧ (w'.heap[gb716]? = some (.cells #[.int .i64 a0_0, .slice A0_1 l0_1.length c0_1] 40 (0, 0))) ∧ (w'.heap[gb717]? = some (.cells #[.slice A1 l1.length c1] 22 (0, 0))) ∧ (w'.heap[s_.2.2.2.2]? = some (.cells #[.slice none 0 0, .slice none 0 0, .int .i64 0, .slice none 0 0, .slice none 0 0] 95 (0, 0))) ∧ (w.heap.size ≤ s_.2.2.2.2) ∧ (w.heap.size ≤ s_.2.2.2.2) ∧ (gb716 ≠ s_.2.2.2.2) ∧ (s_.2.2.2.2 ≠ gb716) ∧ (gb717 ≠ s_.2.2.2.2) ∧ (s_.2.2.2.2 ≠ gb717) ∧ (Below w.heap.size w w')) ?_ ?_
   rotate_left
   ·intro hCont
    refine two_ (i := 2) (j := 7) (Ni := some 23) (Nj := some 7) (bl 10 7) (bl 10 131) rfl rfl rfl rfl (two_of HT_.out (by kernel_rfl)) (by decide) (by decide) (fun K hK => ?_) (fun K hK => ?_)
    ·skip
     refine gS Try.func104 #[.slice A1 l1.length c1] ?_
     with_reducible refine (impl_degree.calls _ _ l1 t723 _ ?side1 ?side2 A17.out).mono ?_
     (case side1 => exact uC ((Kd.V_reads' HO1.out).2.2))
     (case side2 => exact (Kd.V_reads' HO1.out).2.1)
     rintro e w' ⟨rfl, ⟨nd, rfl⟩⟩
     refine ⟨_, rfl, ?_⟩
     refine hK.out _ _ ⟨bcu BK716 0, bcu BK716 1, bcu BK717 0⟩ (fun hHeld => ?_)
     clear hK K
     refine no_ 23 ?_
     refine two_ (i := 3) (j := 7) (Ni := some 24) (Nj := some 7) (bl 10 15) (bl 10 135) rfl rfl rfl rfl (two_of HT_.out (by kernel_rfl)) (by decide) (by decide) (fun K hK => ?_) (fun K hK => ?_)
     ·skip
      refine gS Try.func88 #[.agg #[.int .i64 a0_0, .slice A0_1 l0_1.length c0_1], .int .i64 t723] ?_
      with_reducible refine (impl_Moments_upTo.calls k a0_0 _ _ l0_1 t723 t724 t727 t730 t731 t734 true _ ?side1 ?side2 A18.out).mono ?_
      (case side1 => repeat (first | exact (Kd.C_below HR0_1.out (uH HB.out)) | (with_reducible refine Kd.C_alloc ?_ _) | (with_reducible refine Kd.C_drewN ?_ _) | (with_reducible refine Kd.C_drew ?_)))
      (case side2 => exact HC0_1.out)
      rintro e w33 ⟨v725, v728, v732, v735, rfl, ho0, ho1, ho2, ho3, hb⟩
      refine ⟨_, rfl, ?_⟩
      replace HO1 := zA (Kd.V_mono (Kd.V_told (Kd.V_told (Kd.V_told (Kd.V_told (Kd.V_old (by (with_reducible repeat (first | apply Kd.V_alloc | apply Kd.V_drewN | apply Kd.V_drew)); exact HO1.out) hb) (Kd.N_base ho0)) (Kd.R_base ho1)) (Kd.R_base ho2)) (Kd.R_base ho3)) (fun _ h_ => h_.1))
      have HO726 := zA (Kd.N_lower (Kd.N_mono (ok' := fun k_ => (P1_ k_ ∨ w.heap.size ≤ k_) ∧ some k_ ≠ (v728 : Value).ownBlock ∧ some k_ ≠ (v732 : Value).ownBlock ∧ some k_ ≠ (v735 : Value).ownBlock ∧ ax k_ (.slice Ao29 y719.length co29) ∧ k_ ≠ gb716 ∧ k_ ≠ gb717) ho0 (fun k_ hk_ => ⟨(.inr (Nat.le_trans (below_size (uH HB.out)) hk_.1)), hk_.2.1, hk_.2.2.1, hk_.2.2.2, (Kd.fresh' (Kd.N_lt (by (with_reducible repeat (first | apply Kd.N_alloc | apply Kd.N_drewN | apply Kd.N_drew)); exact HO721.out)) k_ hk_.1), (Kd.freshB (g := gb716) (o := .cells #[.int .i64 a0_0, .slice A0_1 l0_1.length c0_1] 40 (0, 0)) (uB BK716.out) k_ hk_.1), (Kd.freshB (g := gb717) (o := .cells #[.slice A1 l1.length c1] 22 (0, 0)) (uB BK717.out) k_ hk_.1)⟩)) (below_size (uH HB.out)))
      replace HO721 := zA (Kd.N_mono (Kd.N_told (Kd.N_told (Kd.N_told (Kd.N_told (Kd.N_old (by (with_reducible repeat (first | apply Kd.N_alloc | apply Kd.N_drewN | apply Kd.N_drew)); exact HO721.out) hb) (Kd.N_base ho0)) (Kd.R_base ho1)) (Kd.R_base ho2)) (Kd.R_base ho3)) (fun _ h_ => h_.1))
      have HO729 := zA (Kd.R_lower (Kd.R_newM (M := fun k_ => (w.heap.size ≤ k_)) (Kd.R_mono (ok' := fun k_ => some k_ ≠ (v732 : Value).ownBlock ∧ some k_ ≠ (v735 : Value).ownBlock) ho1 (fun _ hk_ => hk_.2)) (below_size (uH HB.out)) (fun k_ h_ => h_)) (below_size (uH HB.out)))
      have HO733 := zA (Kd.R_lower (Kd.R_newM (M := fun k_ => (w.heap.size ≤ k_)) (Kd.R_mono (ok' := fun k_ => some k_ ≠ (v728 : Value).ownBlock ∧ some k_ ≠ (v735 : Value).ownBlock) ho2 (fun _ hk_ => hk_.2)) (below_size (uH HB.out)) (fun k_ h_ => h_)) (below_size (uH HB.out)))
      have HO736 := zA (Kd.R_lower (Kd.R_newM (M := fun k_ => (w.heap.size ≤ k_)) (Kd.R_mono (ok' := fun k_ => some k_ ≠ (v728 : Value).ownBlock ∧ some k_ ≠ (v732 : Value).ownBlock) ho3 (fun _ hk_ => hk_.2)) (below_size (uH HB.out)) (fun k_ h_ => h_)) (below_size (uH HB.out)))
      replace BK716 := xB BK716 hb
      replace BK717 := xB BK717 hb
      replace HB := xH HB hb
      (try clear hb); (try clear hb2); (try clear hk); (try clear hi); (try clear ho0); (try clear ho1); (try clear ho2); (try clear ho3)
      refine hK.out _ _ ⟨bcu BK716 0, bcu BK716 1, bcu BK717 0⟩ (fun hHeld => ?_)
      clear hK K
      refine no_ 24 ?_
      refine pu_ 4 20 (bl 10 31) HT_ ?_
      refine pu_ 5 25 (bl 10 63) HT_ ?_
      refine pu_ 6 26 (bl 10 127) HT_ ?_
      refine on_ 7 (some 7) (bl 10 255) HT_ (fun K hK => ?_)
      refine box_step ?hg (N := 7) ?hd (cs := #[.slice none 0 0, .slice none 0 0, .int .i64 0, .slice none 0 0, .slice none 0 0]) (t := 95) ?hr ?_; (case hd => rfl); (case hg => rfl); (case hr => first | (go_simp; done) | (go_simp; rfl))
      intro gb738 hg w34 hbox hb
      replace HO1 := zA (Kd.V_below (Kd.V_elderB (by (with_reducible repeat (first | apply Kd.V_alloc | apply Kd.V_drewN | apply Kd.V_drew)); exact HO1.out) gb738 (Nat.le_of_eq hg.symm)) hb)
      replace HO721 := zA (Kd.N_below (Kd.N_elderB (by (with_reducible repeat (first | apply Kd.N_alloc | apply Kd.N_drewN | apply Kd.N_drew)); exact HO721.out) gb738 (Nat.le_of_eq hg.symm)) hb)
      replace HO726 := zA (Kd.N_below (Kd.N_elderB (by (with_reducible repeat (first | apply Kd.N_alloc | apply Kd.N_drewN | apply Kd.N_drew)); exact HO726.out) gb738 (Nat.le_of_eq hg.symm)) hb)
      replace HO729 := xR HO729 hb
      replace HO733 := xR HO733 hb
      replace HO736 := xR HO736 hb
      have BK738 := zA (hbox)
      have GW738 := gq HB hg
      have GE738 := gq HB hg
      replace HB := xH HB hb
      have NB716_738 := zA ((by rw [hg]; exact neL BK716 : gb716 ≠ gb738))
      have NB738_716 := zA ((by rw [hg]; exact neG BK716 : gb738 ≠ gb716))
      replace BK716 := xB BK716 hb
      have NB717_738 := zA ((by rw [hg]; exact neL BK717 : gb717 ≠ gb738))
      have NB738_717 := zA ((by rw [hg]; exact neG BK717 : gb738 ≠ gb717))
      replace BK717 := xB BK717 hb
      have := geI GE738
      clear hb hbox hg
      refine hK.out _ _ ⟨bcu BK716 0, bcu BK716 1, bcu BK717 0⟩ (fun hHeld => ?_)
      clear hK K
      refine no_ 7 ?_
      exact norm_ (by simp only [putAll, Act.put, ls, lz, ln]) (hCont (v725, v728, v732, v735, gb738) _ ⟨hHeld, (by (with_reducible repeat (first | apply Kd.V_alloc | apply Kd.V_drewN | apply Kd.V_drew)); exact Kd.V_mono HO1.out (fun _ hk => ⟨hk.1.1.1.1.1.1.1.1, ⟨hk.1.1.1.1.1.2, ⟨hk.1.1.1.1.2, ⟨hk.1.1.1.2, ⟨hk.1.1.2, ⟨hk.1.2, ⟨hk.1.1.1.1.1.1.1.2, ⟨hk.1.1.1.1.1.1.2, hk.2⟩⟩⟩⟩⟩⟩⟩⟩)), (by (with_reducible repeat (first | apply Kd.N_alloc | apply Kd.N_drewN | apply Kd.N_drew)); exact Kd.N_mono HO721.out (fun _ hk => ⟨hk.1.1.1.1.1.1, ⟨hk.1.1.1.1.2, ⟨hk.1.1.1.2, ⟨hk.1.1.2, ⟨hk.1.2, ⟨hk.1.1.1.1.1.2.1, ⟨hk.1.1.1.1.1.2.2, hk.2⟩⟩⟩⟩⟩⟩⟩)), (by (with_reducible repeat (first | apply Kd.N_alloc | apply Kd.N_drewN | apply Kd.N_drew)); exact Kd.N_mono HO726.out (fun _ hk => ⟨hk.1.1, ⟨hk.1.2.2.2.2.1, ⟨hk.1.2.1, ⟨hk.1.2.2.1, ⟨hk.1.2.2.2.1, ⟨hk.1.2.2.2.2.2.1, ⟨hk.1.2.2.2.2.2.2, hk.2⟩⟩⟩⟩⟩⟩⟩)), (uR HO729.out), (uR HO733.out), (uR HO736.out), (uB BK716.out), (uB BK717.out), (uB BK738.out), GW738.out, GE738.out, NB716_738.out, NB738_716.out, NB717_738.out, NB738_717.out, (uH HB.out)⟩)
     ·skip
      refine box_step ?hg (N := 7) ?hd (cs := #[.slice none 0 0, .slice none 0 0, .int .i64 0, .slice none 0 0, .slice none 0 0]) (t := 95) ?hr ?_; (case hd => rfl); (case hg => rfl); (case hr => first | (go_simp; done) | (go_simp; rfl))
      intro gb738 hg w33 hbox hb
      replace HO1 := zA (Kd.V_below (Kd.V_elderB (by (with_reducible repeat (first | apply Kd.V_alloc | apply Kd.V_drewN | apply Kd.V_drew)); exact HO1.out) gb738 (Nat.le_of_eq hg.symm)) hb)
      replace HO721 := zA (Kd.N_below (Kd.N_elderB (by (with_reducible repeat (first | apply Kd.N_alloc | apply Kd.N_drewN | apply Kd.N_drew)); exact HO721.out) gb738 (Nat.le_of_eq hg.symm)) hb)
      have BK738 := zA (hbox)
      have GW738 := gq HB hg
      have GE738 := gq HB hg
      replace HB := xH HB hb
      have NB716_738 := zA ((by rw [hg]; exact neL BK716 : gb716 ≠ gb738))
      have NB738_716 := zA ((by rw [hg]; exact neG BK716 : gb738 ≠ gb716))
      replace BK716 := xB BK716 hb
      have NB717_738 := zA ((by rw [hg]; exact neL BK717 : gb717 ≠ gb738))
      have NB738_717 := zA ((by rw [hg]; exact neG BK717 : gb738 ≠ gb717))
      replace BK717 := xB BK717 hb
      have := geI GE738
      clear hb hbox hg
      refine hK.out _ _ ⟨bcu BK716 0, bcu BK716 1, bcu BK717 0⟩ (fun hHeld => ?_)
      clear hK K
      refine no_ 7 ?_
      refine on_ 3 (some 24) (bl 10 143) HT_ (fun K hK => ?_)
      refine gS Try.func88 #[.agg #[.int .i64 a0_0, .slice A0_1 l0_1.length c0_1], .int .i64 t723] ?_
      with_reducible refine (impl_Moments_upTo.calls k a0_0 _ _ l0_1 t723 t724 t727 t730 t731 t734 true _ ?side1 ?side2 A18.out).mono ?_
      (case side1 => exact uC ((Kd.C_below HR0_1.out HB.out)))
      (case side2 => exact HC0_1.out)
      rintro e w34 ⟨v725, v728, v732, v735, rfl, ho0, ho1, ho2, ho3, hb⟩
      refine ⟨_, rfl, ?_⟩
      replace HO1 := zA (Kd.V_mono (Kd.V_told (Kd.V_told (Kd.V_told (Kd.V_told (Kd.V_old (by (with_reducible repeat (first | apply Kd.V_alloc | apply Kd.V_drewN | apply Kd.V_drew)); exact HO1.out) hb) (Kd.N_base ho0)) (Kd.R_base ho1)) (Kd.R_base ho2)) (Kd.R_base ho3)) (fun _ h_ => h_.1))
      have HO726 := zA (Kd.N_lower (Kd.N_mono (ok' := fun k_ => (P1_ k_ ∨ w.heap.size ≤ k_) ∧ some k_ ≠ (v728 : Value).ownBlock ∧ some k_ ≠ (v732 : Value).ownBlock ∧ some k_ ≠ (v735 : Value).ownBlock ∧ ax k_ (.slice Ao29 y719.length co29) ∧ k_ ≠ gb716 ∧ k_ ≠ gb717 ∧ k_ ≠ gb738) ho0 (fun k_ hk_ => ⟨(.inr (Nat.le_trans (below_size (uH HB.out)) hk_.1)), hk_.2.1, hk_.2.2.1, hk_.2.2.2, (Kd.fresh' (Kd.N_lt (by (with_reducible repeat (first | apply Kd.N_alloc | apply Kd.N_drewN | apply Kd.N_drew)); exact HO721.out)) k_ hk_.1), (Kd.freshB (g := gb716) (o := .cells #[.int .i64 a0_0, .slice A0_1 l0_1.length c0_1] 40 (0, 0)) (uB BK716.out) k_ hk_.1), (Kd.freshB (g := gb717) (o := .cells #[.slice A1 l1.length c1] 22 (0, 0)) (uB BK717.out) k_ hk_.1), (Kd.freshB (g := gb738) (o := .cells #[.slice none 0 0, .slice none 0 0, .int .i64 0, .slice none 0 0, .slice none 0 0] 95 (0, 0)) (uB BK738.out) k_ hk_.1)⟩)) (below_size (uH HB.out)))
      replace HO721 := zA (Kd.N_mono (Kd.N_told (Kd.N_told (Kd.N_told (Kd.N_told (Kd.N_old (by (with_reducible repeat (first | apply Kd.N_alloc | apply Kd.N_drewN | apply Kd.N_drew)); exact HO721.out) hb) (Kd.N_base ho0)) (Kd.R_base ho1)) (Kd.R_base ho2)) (Kd.R_base ho3)) (fun _ h_ => h_.1))
      have HO729 := zA (Kd.R_lower (Kd.R_newM (M := fun k_ => (w.heap.size ≤ k_)) (Kd.R_mono (ok' := fun k_ => some k_ ≠ (v732 : Value).ownBlock ∧ some k_ ≠ (v735 : Value).ownBlock) ho1 (fun _ hk_ => hk_.2)) (below_size (uH HB.out)) (fun k_ h_ => h_)) (below_size (uH HB.out)))
      have HO733 := zA (Kd.R_lower (Kd.R_newM (M := fun k_ => (w.heap.size ≤ k_)) (Kd.R_mono (ok' := fun k_ => some k_ ≠ (v728 : Value).ownBlock ∧ some k_ ≠ (v735 : Value).ownBlock) ho2 (fun _ hk_ => hk_.2)) (below_size (uH HB.out)) (fun k_ h_ => h_)) (below_size (uH HB.out)))
      have HO736 := zA (Kd.R_lower (Kd.R_newM (M := fun k_ => (w.heap.size ≤ k_)) (Kd.R_mono (ok' := fun k_ => some k_ ≠ (v728 : Value).ownBlock ∧ some k_ ≠ (v732 : Value).ownBlock) ho3 (fun _ hk_ => hk_.2)) (below_size (uH HB.out)) (fun k_ h_ => h_)) (below_size (uH HB.out)))
      replace BK716 := xB BK716 hb
      replace BK717 := xB BK717 hb
      replace BK738 := xB BK738 hb
      replace HB := xH HB hb
      (try clear hb); (try clear hb2); (try clear hk); (try clear hi); (try clear ho0); (try clear ho1); (try clear ho2); (try clear ho3)
      refine hK.out _ _ ⟨bcu BK716 0, bcu BK716 1, bcu BK717 0⟩ (fun hHeld => ?_)
      clear hK K
      refine no_ 24 ?_
      refine pu_ 4 20 (bl 10 159) HT_ ?_
      refine pu_ 5 25 (bl 10 191) HT_ ?_
      refine pu_ 6 26 (bl 10 255) HT_ ?_
      exact norm_ (by simp only [putAll, Act.put, ls, lz, ln]) (hCont (v725, v728, v732, v735, gb738) _ ⟨hHeld, (by (with_reducible repeat (first | apply Kd.V_alloc | apply Kd.V_drewN | apply Kd.V_drew)); exact Kd.V_mono HO1.out (fun _ hk => ⟨hk.1.1.1.1.1.1.1.1, ⟨hk.1.1.1.1.1.2, ⟨hk.1.1.1.2, ⟨hk.1.1.2, ⟨hk.1.2, ⟨hk.2, ⟨hk.1.1.1.1.1.1.1.2, ⟨hk.1.1.1.1.1.1.2, hk.1.1.1.1.2⟩⟩⟩⟩⟩⟩⟩⟩)), (by (with_reducible repeat (first | apply Kd.N_alloc | apply Kd.N_drewN | apply Kd.N_drew)); exact Kd.N_mono HO721.out (fun _ hk => ⟨hk.1.1.1.1.1.1, ⟨hk.1.1.1.2, ⟨hk.1.1.2, ⟨hk.1.2, ⟨hk.2, ⟨hk.1.1.1.1.1.2.1, ⟨hk.1.1.1.1.1.2.2, hk.1.1.1.1.2⟩⟩⟩⟩⟩⟩⟩)), (by (with_reducible repeat (first | apply Kd.N_alloc | apply Kd.N_drewN | apply Kd.N_drew)); exact Kd.N_mono HO726.out (fun _ hk => ⟨hk.1, ⟨hk.2.2.2.2.1, ⟨hk.2.1, ⟨hk.2.2.1, ⟨hk.2.2.2.1, ⟨hk.2.2.2.2.2.1, ⟨hk.2.2.2.2.2.2.1, hk.2.2.2.2.2.2.2⟩⟩⟩⟩⟩⟩⟩)), (uR HO729.out), (uR HO733.out), (uR HO736.out), (uB BK716.out), (uB BK717.out), (uB BK738.out), GW738.out, GE738.out, NB716_738.out, NB738_716.out, NB717_738.out, NB738_717.out, (uH HB.out)⟩)
    ·skip
     refine box_step ?hg (N := 7) ?hd (cs := #[.slice none 0 0, .slice none 0 0, .int .i64 0, .slice none 0 0, .slice none 0 0]) (t := 95) ?hr ?_; (case hd => rfl); (case hg => rfl); (case hr => first | (go_simp; done) | (go_simp; rfl))
     intro gb738 hg w33 hbox hb
     replace HO1 := zA (Kd.V_below (Kd.V_elderB (by (with_reducible repeat (first | apply Kd.V_alloc | apply Kd.V_drewN | apply Kd.V_drew)); exact HO1.out) gb738 (Nat.le_of_eq hg.symm)) hb)
     replace HO721 := zA (Kd.N_below (Kd.N_elderB (by (with_reducible repeat (first | apply Kd.N_alloc | apply Kd.N_drewN | apply Kd.N_drew)); exact HO721.out) gb738 (Nat.le_of_eq hg.symm)) hb)
     have BK738 := zA (hbox)
     have GW738 := gq HB hg
     have GE738 := gq HB hg
     replace HB := xH HB hb
     have NB716_738 := zA ((by rw [hg]; exact neL BK716 : gb716 ≠ gb738))
     have NB738_716 := zA ((by rw [hg]; exact neG BK716 : gb738 ≠ gb716))
     replace BK716 := xB BK716 hb
     have NB717_738 := zA ((by rw [hg]; exact neL BK717 : gb717 ≠ gb738))
     have NB738_717 := zA ((by rw [hg]; exact neG BK717 : gb738 ≠ gb717))
     replace BK717 := xB BK717 hb
     have := geI GE738
     clear hb hbox hg
     refine hK.out _ _ ⟨bcu BK716 0, bcu BK716 1, bcu BK717 0⟩ (fun hHeld => ?_)
     clear hK K
     refine no_ 7 ?_
     refine on_ 2 (some 23) (bl 10 135) HT_ (fun K hK => ?_)
     refine gS Try.func104 #[.slice A1 l1.length c1] ?_
     with_reducible refine (impl_degree.calls _ _ l1 t723 _ ?side1 ?side2 A17.out).mono ?_
     (case side1 => exact uC ((Kd.V_reads' HO1.out).2.2))
     (case side2 => exact (Kd.V_reads' HO1.out).2.1)
     rintro e w' ⟨rfl, ⟨nd, rfl⟩⟩
     refine ⟨_, rfl, ?_⟩
     refine hK.out _ _ ⟨bcu BK716 0, bcu BK716 1, bcu BK717 0⟩ (fun hHeld => ?_)
     clear hK K
     refine no_ 23 ?_
     refine on_ 3 (some 24) (bl 10 143) HT_ (fun K hK => ?_)
     refine gS Try.func88 #[.agg #[.int .i64 a0_0, .slice A0_1 l0_1.length c0_1], .int .i64 t723] ?_
     with_reducible refine (impl_Moments_upTo.calls k a0_0 _ _ l0_1 t723 t724 t727 t730 t731 t734 true _ ?side1 ?side2 A18.out).mono ?_
     (case side1 => repeat (first | exact (Kd.C_below HR0_1.out (uH HB.out)) | (with_reducible refine Kd.C_alloc ?_ _) | (with_reducible refine Kd.C_drewN ?_ _) | (with_reducible refine Kd.C_drew ?_)))
     (case side2 => exact HC0_1.out)
     rintro e w34 ⟨v725, v728, v732, v735, rfl, ho0, ho1, ho2, ho3, hb⟩
     refine ⟨_, rfl, ?_⟩
     replace HO1 := zA (Kd.V_mono (Kd.V_told (Kd.V_told (Kd.V_told (Kd.V_told (Kd.V_old (by (with_reducible repeat (first | apply Kd.V_alloc | apply Kd.V_drewN | apply Kd.V_drew)); exact HO1.out) hb) (Kd.N_base ho0)) (Kd.R_base ho1)) (Kd.R_base ho2)) (Kd.R_base ho3)) (fun _ h_ => h_.1))
     have HO726 := zA (Kd.N_lower (Kd.N_mono (ok' := fun k_ => (P1_ k_ ∨ w.heap.size ≤ k_) ∧ some k_ ≠ (v728 : Value).ownBlock ∧ some k_ ≠ (v732 : Value).ownBlock ∧ some k_ ≠ (v735 : Value).ownBlock ∧ ax k_ (.slice Ao29 y719.length co29) ∧ k_ ≠ gb716 ∧ k_ ≠ gb717 ∧ k_ ≠ gb738) ho0 (fun k_ hk_ => ⟨(.inr (Nat.le_trans (below_size (uH HB.out)) hk_.1)), hk_.2.1, hk_.2.2.1, hk_.2.2.2, (Kd.fresh' (Kd.N_lt (by (with_reducible repeat (first | apply Kd.N_alloc | apply Kd.N_drewN | apply Kd.N_drew)); exact HO721.out)) k_ hk_.1), (Kd.freshB (g := gb716) (o := .cells #[.int .i64 a0_0, .slice A0_1 l0_1.length c0_1] 40 (0, 0)) (uB BK716.out) k_ hk_.1), (Kd.freshB (g := gb717) (o := .cells #[.slice A1 l1.length c1] 22 (0, 0)) (uB BK717.out) k_ hk_.1), (Kd.freshB (g := gb738) (o := .cells #[.slice none 0 0, .slice none 0 0, .int .i64 0, .slice none 0 0, .slice none 0 0] 95 (0, 0)) (uB BK738.out) k_ hk_.1)⟩)) (below_size (uH HB.out)))
     replace HO721 := zA (Kd.N_mono (Kd.N_told (Kd.N_told (Kd.N_told (Kd.N_told (Kd.N_old (by (with_reducible repeat (first | apply Kd.N_alloc | apply Kd.N_drewN | apply Kd.N_drew)); exact HO721.out) hb) (Kd.N_base ho0)) (Kd.R_base ho1)) (Kd.R_base ho2)) (Kd.R_base ho3)) (fun _ h_ => h_.1))
     have HO729 := zA (Kd.R_lower (Kd.R_newM (M := fun k_ => (w.heap.size ≤ k_)) (Kd.R_mono (ok' := fun k_ => some k_ ≠ (v732 : Value).ownBlock ∧ some k_ ≠ (v735 : Value).ownBlock) ho1 (fun _ hk_ => hk_.2)) (below_size (uH HB.out)) (fun k_ h_ => h_)) (below_size (uH HB.out)))
     have HO733 := zA (Kd.R_lower (Kd.R_newM (M := fun k_ => (w.heap.size ≤ k_)) (Kd.R_mono (ok' := fun k_ => some k_ ≠ (v728 : Value).ownBlock ∧ some k_ ≠ (v735 : Value).ownBlock) ho2 (fun _ hk_ => hk_.2)) (below_size (uH HB.out)) (fun k_ h_ => h_)) (below_size (uH HB.out)))
     have HO736 := zA (Kd.R_lower (Kd.R_newM (M := fun k_ => (w.heap.size ≤ k_)) (Kd.R_mono (ok' := fun k_ => some k_ ≠ (v728 : Value).ownBlock ∧ some k_ ≠ (v732 : Value).ownBlock) ho3 (fun _ hk_ => hk_.2)) (below_size (uH HB.out)) (fun k_ h_ => h_)) (below_size (uH HB.out)))
     replace BK716 := xB BK716 hb
     replace BK717 := xB BK717 hb
     replace BK738 := xB BK738 hb
     replace HB := xH HB hb
     (try clear hb); (try clear hb2); (try clear hk); (try clear hi); (try clear ho0); (try clear ho1); (try clear ho2); (try clear ho3)
     refine hK.out _ _ ⟨bcu BK716 0, bcu BK716 1, bcu BK717 0⟩ (fun hHeld => ?_)
     clear hK K
     refine no_ 24 ?_
     refine pu_ 4 20 (bl 10 159) HT_ ?_
     refine pu_ 5 25 (bl 10 191) HT_ ?_
     refine pu_ 6 26 (bl 10 255) HT_ ?_
     exact norm_ (by simp only [putAll, Act.put, ls, lz, ln]) (hCont (v725, v728, v732, v735, gb738) _ ⟨hHeld, (by (with_reducible repeat (first | apply Kd.V_alloc | apply Kd.V_drewN | apply Kd.V_drew)); exact Kd.V_mono HO1.out (fun _ hk => ⟨hk.1.1.1.1.1.1.1.1, ⟨hk.1.1.1.1.1.2, ⟨hk.1.1.1.2, ⟨hk.1.1.2, ⟨hk.1.2, ⟨hk.2, ⟨hk.1.1.1.1.1.1.1.2, ⟨hk.1.1.1.1.1.1.2, hk.1.1.1.1.2⟩⟩⟩⟩⟩⟩⟩⟩)), (by (with_reducible repeat (first | apply Kd.N_alloc | apply Kd.N_drewN | apply Kd.N_drew)); exact Kd.N_mono HO721.out (fun _ hk => ⟨hk.1.1.1.1.1.1, ⟨hk.1.1.1.2, ⟨hk.1.1.2, ⟨hk.1.2, ⟨hk.2, ⟨hk.1.1.1.1.1.2.1, ⟨hk.1.1.1.1.1.2.2, hk.1.1.1.1.2⟩⟩⟩⟩⟩⟩⟩)), (by (with_reducible repeat (first | apply Kd.N_alloc | apply Kd.N_drewN | apply Kd.N_drew)); exact Kd.N_mono HO726.out (fun _ hk => ⟨hk.1, ⟨hk.2.2.2.2.1, ⟨hk.2.1, ⟨hk.2.2.1, ⟨hk.2.2.2.1, ⟨hk.2.2.2.2.2.1, ⟨hk.2.2.2.2.2.2.1, hk.2.2.2.2.2.2.2⟩⟩⟩⟩⟩⟩⟩)), (uR HO729.out), (uR HO733.out), (uR HO736.out), (uB BK716.out), (uB BK717.out), (uB BK738.out), GW738.out, GE738.out, NB716_738.out, NB738_716.out, NB717_738.out, NB738_717.out, (uH HB.out)⟩)
   rintro ⟨v725, v728, v732, v735, gb738⟩ w35 ⟨hS_, h0_, h1_, h2_, h3_, h4_, h5_, h6_, h7_, h8_, h9_, h10_, h11_, h12_, h13_, h14_, h15_⟩
   have n0_ : Aside0 (Kd.V (Kd.int .i64) 2 w35 w.heap.size (fun k_ => (P1_ k_ ∨ w.heap.size ≤ k_) ∧ ax k_ (.slice Ao29 y719.length co29) ∧ some k_ ≠ (v725 : Value).ownBlock ∧ some k_ ≠ (v728 : Value).ownBlock ∧ some k_ ≠ (v732 : Value).ownBlock ∧ some k_ ≠ (v735 : Value).ownBlock ∧ k_ ≠ gb716 ∧ k_ ≠ gb717 ∧ k_ ≠ gb738) (.slice A1 l1.length c1) l1) := ⟨h0_⟩
   have n1_ : Aside0 (Kd.N (Kd.slice 2 (Kd.int .i64)) 22 w35 w.heap.size (fun k_ => (P1_ k_ ∨ w.heap.size ≤ k_) ∧ some k_ ≠ (v725 : Value).ownBlock ∧ some k_ ≠ (v728 : Value).ownBlock ∧ some k_ ≠ (v732 : Value).ownBlock ∧ some k_ ≠ (v735 : Value).ownBlock ∧ k_ ≠ gb716 ∧ k_ ≠ gb717 ∧ k_ ≠ gb738) (.slice Ao29 y719.length co29) y719) := ⟨h1_⟩
   have n2_ : Aside0 (Kd.N (Kd.slice 2 (Kd.int .i64)) 22 w35 w.heap.size (fun k_ => (P1_ k_ ∨ w.heap.size ≤ k_) ∧ ax k_ (.slice Ao29 y719.length co29) ∧ some k_ ≠ (v728 : Value).ownBlock ∧ some k_ ≠ (v732 : Value).ownBlock ∧ some k_ ≠ (v735 : Value).ownBlock ∧ k_ ≠ gb716 ∧ k_ ≠ gb717 ∧ k_ ≠ gb738) v725 t724) := ⟨h2_⟩
   have n3_ : Aside0 (Kd.R (Kd.int .i64) 2 w35 w.heap.size (fun k_ => (w.heap.size ≤ k_) ∧ some k_ ≠ (v732 : Value).ownBlock ∧ some k_ ≠ (v735 : Value).ownBlock) v728 t727) := ⟨h3_⟩
   have n4_ : Aside0 (Kd.R (Kd.int .i64) 2 w35 w.heap.size (fun k_ => (w.heap.size ≤ k_) ∧ some k_ ≠ (v728 : Value).ownBlock ∧ some k_ ≠ (v735 : Value).ownBlock) v732 t731) := ⟨h4_⟩
   have n5_ : Aside0 (Kd.R (Kd.int .i64) 2 w35 w.heap.size (fun k_ => (w.heap.size ≤ k_) ∧ some k_ ≠ (v728 : Value).ownBlock ∧ some k_ ≠ (v732 : Value).ownBlock) v735 t734) := ⟨h5_⟩
   have n6_ : Aside0 (w35.heap[gb716]? = some (.cells #[.int .i64 a0_0, .slice A0_1 l0_1.length c0_1] 40 (0, 0))) := ⟨h6_⟩
   have n7_ : Aside0 (w35.heap[gb717]? = some (.cells #[.slice A1 l1.length c1] 22 (0, 0))) := ⟨h7_⟩
   have n8_ : Aside0 (w35.heap[gb738]? = some (.cells #[.slice none 0 0, .slice none 0 0, .int .i64 0, .slice none 0 0, .slice none 0 0] 95 (0, 0))) := ⟨h8_⟩
   have n9_ : Aside0 (w.heap.size ≤ gb738) := ⟨h9_⟩
   have n10_ : Aside0 (w.heap.size ≤ gb738) := ⟨h10_⟩
   have n11_ : Aside0 (gb716 ≠ gb738) := ⟨h11_⟩
   have n12_ : Aside0 (gb738 ≠ gb716) := ⟨h12_⟩
   have n13_ : Aside0 (gb717 ≠ gb738) := ⟨h13_⟩
   have n14_ : Aside0 (gb738 ≠ gb717) := ⟨h14_⟩
   have n15_ : Aside0 (Below w.heap.size w w35) := ⟨h15_⟩
   clear HO1 HO721 BK716 BK717 HB
   clear h0_ h1_ h2_ h3_ h4_ h5_ h6_ h7_ h8_ h9_ h10_ h11_ h12_ h13_ h14_ h15_
   have HO1 := n0_
   have HO721 := n1_
   have HO726 := n2_
   have HO729 := n3_
   have HO733 := n4_
   have HO736 := n5_
   have BK716 := n6_
   have BK717 := n7_
   have BK738 := n8_
   have GW738 := n9_
   have GE738 := n10_
   have := geI GE738
   have NB716_738 := n11_
   have NB738_716 := n12_
   have NB717_738 := n13_
   have NB738_717 := n14_
   have HB := n15_
   clear n0_ n1_ n2_ n3_ n4_ n5_ n6_ n7_ n8_ n9_ n10_ n11_ n12_ n13_ n14_ n15_
   have hHeld : w35.cell? ⟨gb716, 0, none⟩ = some (.int .i64 a0_0) ∧ w35.cell? ⟨gb716, 1, none⟩ = some (.slice A0_1 l0_1.length c0_1) ∧ w35.cell? ⟨gb717, 0, none⟩ = some (.slice A1 l1.length c1) := hS_
   obtain ⟨Ao36, co36, eo36⟩ := Kd.N_slice HO726.out
   (first | subst eo36 | (injection eo36 with f1_ f2_ f3_; have f4_ := f1_.symm; have f5_ := f3_.symm; clear f1_ f2_ f3_; subst f4_; subst f5_))
   obtain ⟨Ao38, co38, eo38⟩ := Kd.R_slice HO729.out
   (first | subst eo38 | (injection eo38 with f1_ f2_ f3_; have f4_ := f1_.symm; have f5_ := f3_.symm; clear f1_ f2_ f3_; subst f4_; subst f5_))
   obtain ⟨Ao41, co41, eo41⟩ := Kd.R_slice HO733.out
   (first | subst eo41 | (injection eo41 with f1_ f2_ f3_; have f4_ := f1_.symm; have f5_ := f3_.symm; clear f1_ f2_ f3_; subst f4_; subst f5_))
   obtain ⟨Ao43, co43, eo43⟩ := Kd.R_slice HO736.out
   (first | subst eo43 | (injection eo43 with f1_ f2_ f3_; have f4_ := f1_.symm; have f5_ := f3_.symm; clear f1_ f2_ f3_; subst f4_; subst f5_))
   refine norm_ (a' := ?_) ?_ ?_
   rotate_left
   ·simp only [putAll, Act.put, ls, lz, ln]
    rfl
   refine on_ 8 (none) (bl 10 511) HT_ (fun K hK => ?_)
   have hs37 : w35.cell? ⟨gb738, 0, none⟩ = some (.slice none 0 0) := (blk_cell BK738.out 0).trans rfl
   have hfs37 := bf BK738 0
   have hns37_0 := NB716_738.out; have hns37_1 := NB717_738.out; have hms37_0 := NB738_716.out; have hms37_1 := NB738_717.out
   have hs39 : w35.cell? ⟨gb738, 1, none⟩ = some (.slice none 0 0) := (blk_cell BK738.out 1).trans rfl
   have hfs39 := bf BK738 1
   have hns39_0 := NB716_738.out; have hns39_1 := NB717_738.out; have hms39_0 := NB738_716.out; have hms39_1 := NB738_717.out
   have hs40 : w35.cell? ⟨gb738, 2, none⟩ = some (.int .i64 0) := (blk_cell BK738.out 2).trans rfl
   have hfs40 := bf BK738 2
   have hns40_0 := NB716_738.out; have hns40_1 := NB717_738.out; have hms40_0 := NB738_716.out; have hms40_1 := NB738_717.out
   have hs42 : w35.cell? ⟨gb738, 3, none⟩ = some (.slice none 0 0) := (blk_cell BK738.out 3).trans rfl
   have hfs42 := bf BK738 3
   have hns42_0 := NB716_738.out; have hns42_1 := NB717_738.out; have hms42_0 := NB738_716.out; have hms42_1 := NB738_717.out
   have hs44 : w35.cell? ⟨gb738, 4, none⟩ = some (.slice none 0 0) := (blk_cell BK738.out 4).trans rfl
   have hfs44 := bf BK738 4
   have hns44_0 := NB716_738.out; have hns44_1 := NB717_738.out; have hms44_0 := NB738_716.out; have hms44_1 := NB738_717.out
   refine skip_ (w1 := ?_) (by rfl) rfl ?_ ?_
   rotate_left
   ·go_simp
    rfl
   refine hK.out _ _ ⟨((cell_far (p := ⟨gb738, _, none⟩) NB716_738.out _).trans (((cell_far (p := ⟨gb738, _, none⟩) NB716_738.out _).trans (((cell_far (p := ⟨gb738, _, none⟩) NB716_738.out _).trans (((cell_far (p := ⟨gb738, _, none⟩) NB716_738.out _).trans (((cell_far (p := ⟨gb738, _, none⟩) NB716_738.out _).trans (hHeld.1)))))))))), ((cell_far (p := ⟨gb738, _, none⟩) NB716_738.out _).trans (((cell_far (p := ⟨gb738, _, none⟩) NB716_738.out _).trans (((cell_far (p := ⟨gb738, _, none⟩) NB716_738.out _).trans (((cell_far (p := ⟨gb738, _, none⟩) NB716_738.out _).trans (((cell_far (p := ⟨gb738, _, none⟩) NB716_738.out _).trans (hHeld.2.1)))))))))), ((cell_far (p := ⟨gb738, _, none⟩) NB717_738.out _).trans (((cell_far (p := ⟨gb738, _, none⟩) NB717_738.out _).trans (((cell_far (p := ⟨gb738, _, none⟩) NB717_738.out _).trans (((cell_far (p := ⟨gb738, _, none⟩) NB717_738.out _).trans (((cell_far (p := ⟨gb738, _, none⟩) NB717_738.out _).trans (hHeld.2.2))))))))))⟩ (fun hHeld => ?_)
   clear hK K
   refine pu_ 9 8 (bl 10 1023) HT_ ?_
   refine done_ (done_of HT_.out (by kernel_rfl)) ?_
   try go_wp2
   have n0_ : Aside0 (Kd.V (Kd.int .i64) 2 (((((w35.setCell ⟨gb738, 0, none⟩ (.slice Ao36 t724.length co36)).setCell ⟨gb738, 1, none⟩ (.slice Ao38 t727.length co38)).setCell ⟨gb738, 2, none⟩ (.int .i64 t730)).setCell ⟨gb738, 3, none⟩ (.slice Ao41 t731.length co41)).setCell ⟨gb738, 4, none⟩ (.slice Ao43 t734.length co43)) w.heap.size (fun k_ => (P1_ k_ ∨ w.heap.size ≤ k_) ∧ ax k_ (.slice Ao29 y719.length co29) ∧ ax k_ (.slice Ao36 t724.length co36) ∧ ax k_ (.slice Ao38 t727.length co38) ∧ ax k_ (.slice Ao41 t731.length co41) ∧ ax k_ (.slice Ao43 t734.length co43) ∧ k_ ≠ gb716 ∧ k_ ≠ gb717 ∧ k_ ≠ gb738) (.slice A1 l1.length c1) l1) := ⟨by (with_reducible repeat (first | apply Kd.V_alloc | apply Kd.V_drewN | apply Kd.V_drew)); exact Kd.V_mono (Kd.V_far (p := ⟨gb738, 4, none⟩) (Kd.V_far (p := ⟨gb738, 3, none⟩) (Kd.V_far (p := ⟨gb738, 2, none⟩) (Kd.V_far (p := ⟨gb738, 1, none⟩) (Kd.V_far (p := ⟨gb738, 0, none⟩) (Kd.V_mono HO1.out (fun k_ hk => (⟨hk, hk.2.2.2.2.2.2.2.2⟩ : _ ∧ k_ ≠ gb738))) (fun _ hk => hk.2) (.slice Ao36 t724.length co36)) (fun _ hk => hk.2) (.slice Ao38 t727.length co38)) (fun _ hk => hk.2) (.int .i64 t730)) (fun _ hk => hk.2) (.slice Ao41 t731.length co41)) (fun _ hk => hk.2) (.slice Ao43 t734.length co43)) (fun _ hk => ⟨hk.1.1, ⟨hk.1.2.1, ⟨hk.1.2.2.1, ⟨hk.1.2.2.2.1, ⟨hk.1.2.2.2.2.1, ⟨hk.1.2.2.2.2.2.1, ⟨hk.1.2.2.2.2.2.2.1, ⟨hk.1.2.2.2.2.2.2.2.1, hk.1.2.2.2.2.2.2.2.2⟩⟩⟩⟩⟩⟩⟩⟩)⟩
   have n1_ : Aside0 (Kd.N (Kd.slice 2 (Kd.int .i64)) 22 (((((w35.setCell ⟨gb738, 0, none⟩ (.slice Ao36 t724.length co36)).setCell ⟨gb738, 1, none⟩ (.slice Ao38 t727.length co38)).setCell ⟨gb738, 2, none⟩ (.int .i64 t730)).setCell ⟨gb738, 3, none⟩ (.slice Ao41 t731.length co41)).setCell ⟨gb738, 4, none⟩ (.slice Ao43 t734.length co43)) w.heap.size (fun k_ => (P1_ k_ ∨ w.heap.size ≤ k_) ∧ ax k_ (.slice Ao36 t724.length co36) ∧ ax k_ (.slice Ao38 t727.length co38) ∧ ax k_ (.slice Ao41 t731.length co41) ∧ ax k_ (.slice Ao43 t734.length co43) ∧ k_ ≠ gb716 ∧ k_ ≠ gb717 ∧ k_ ≠ gb738) (.slice Ao29 y719.length co29) y719) := ⟨by (with_reducible repeat (first | apply Kd.N_alloc | apply Kd.N_drewN | apply Kd.N_drew)); exact Kd.N_mono (Kd.N_far (p := ⟨gb738, 4, none⟩) (Kd.N_far (p := ⟨gb738, 3, none⟩) (Kd.N_far (p := ⟨gb738, 2, none⟩) (Kd.N_far (p := ⟨gb738, 1, none⟩) (Kd.N_far (p := ⟨gb738, 0, none⟩) (Kd.N_mono HO721.out (fun k_ hk => (⟨hk, hk.2.2.2.2.2.2.2⟩ : _ ∧ k_ ≠ gb738))) (fun _ hk => hk.2) (.slice Ao36 t724.length co36)) (fun _ hk => hk.2) (.slice Ao38 t727.length co38)) (fun _ hk => hk.2) (.int .i64 t730)) (fun _ hk => hk.2) (.slice Ao41 t731.length co41)) (fun _ hk => hk.2) (.slice Ao43 t734.length co43)) (fun _ hk => ⟨hk.1.1, ⟨hk.1.2.1, ⟨hk.1.2.2.1, ⟨hk.1.2.2.2.1, ⟨hk.1.2.2.2.2.1, ⟨hk.1.2.2.2.2.2.1, ⟨hk.1.2.2.2.2.2.2.1, hk.1.2.2.2.2.2.2.2⟩⟩⟩⟩⟩⟩⟩)⟩
   have n2_ : Aside0 (Kd.N (Kd.slice 2 (Kd.int .i64)) 22 (((((w35.setCell ⟨gb738, 0, none⟩ (.slice Ao36 t724.length co36)).setCell ⟨gb738, 1, none⟩ (.slice Ao38 t727.length co38)).setCell ⟨gb738, 2, none⟩ (.int .i64 t730)).setCell ⟨gb738, 3, none⟩ (.slice Ao41 t731.length co41)).setCell ⟨gb738, 4, none⟩ (.slice Ao43 t734.length co43)) w.heap.size (fun k_ => (P1_ k_ ∨ w.heap.size ≤ k_) ∧ ax k_ (.slice Ao29 y719.length co29) ∧ ax k_ (.slice Ao38 t727.length co38) ∧ ax k_ (.slice Ao41 t731.length co41) ∧ ax k_ (.slice Ao43 t734.length co43) ∧ k_ ≠ gb716 ∧ k_ ≠ gb717 ∧ k_ ≠ gb738) (.slice Ao36 t724.length co36) t724) := ⟨by (with_reducible repeat (first | apply Kd.N_alloc | apply Kd.N_drewN | apply Kd.N_drew)); exact Kd.N_mono (Kd.N_far (p := ⟨gb738, 4, none⟩) (Kd.N_far (p := ⟨gb738, 3, none⟩) (Kd.N_far (p := ⟨gb738, 2, none⟩) (Kd.N_far (p := ⟨gb738, 1, none⟩) (Kd.N_far (p := ⟨gb738, 0, none⟩) (Kd.N_mono HO726.out (fun k_ hk => (⟨hk, hk.2.2.2.2.2.2.2⟩ : _ ∧ k_ ≠ gb738))) (fun _ hk => hk.2) (.slice Ao36 t724.length co36)) (fun _ hk => hk.2) (.slice Ao38 t727.length co38)) (fun _ hk => hk.2) (.int .i64 t730)) (fun _ hk => hk.2) (.slice Ao41 t731.length co41)) (fun _ hk => hk.2) (.slice Ao43 t734.length co43)) (fun _ hk => ⟨hk.1.1, ⟨hk.1.2.1, ⟨hk.1.2.2.1, ⟨hk.1.2.2.2.1, ⟨hk.1.2.2.2.2.1, ⟨hk.1.2.2.2.2.2.1, ⟨hk.1.2.2.2.2.2.2.1, hk.1.2.2.2.2.2.2.2⟩⟩⟩⟩⟩⟩⟩)⟩
   have n3_ : Aside0 (Kd.R (Kd.int .i64) 2 (((((w35.setCell ⟨gb738, 0, none⟩ (.slice Ao36 t724.length co36)).setCell ⟨gb738, 1, none⟩ (.slice Ao38 t727.length co38)).setCell ⟨gb738, 2, none⟩ (.int .i64 t730)).setCell ⟨gb738, 3, none⟩ (.slice Ao41 t731.length co41)).setCell ⟨gb738, 4, none⟩ (.slice Ao43 t734.length co43)) w.heap.size (fun k_ => (w.heap.size ≤ k_) ∧ ax k_ (.slice Ao41 t731.length co41) ∧ ax k_ (.slice Ao43 t734.length co43)) (.slice Ao38 t727.length co38) t727) := ⟨uR (Kd.R_mono (Kd.R_far (p := ⟨gb738, 4, none⟩) (Kd.R_far (p := ⟨gb738, 3, none⟩) (Kd.R_far (p := ⟨gb738, 2, none⟩) (Kd.R_far (p := ⟨gb738, 1, none⟩) (Kd.R_far (p := ⟨gb738, 0, none⟩) (Kd.R_types HO729.out BK738.out (by decide)) (fun _ hk => hk.2) (.slice Ao36 t724.length co36)) (fun _ hk => hk.2) (.slice Ao38 t727.length co38)) (fun _ hk => hk.2) (.int .i64 t730)) (fun _ hk => hk.2) (.slice Ao41 t731.length co41)) (fun _ hk => hk.2) (.slice Ao43 t734.length co43)) (fun _ hk => ⟨hk.1.1, ⟨hk.1.2.1, hk.1.2.2⟩⟩))⟩
   have n4_ : Aside0 (Kd.R (Kd.int .i64) 2 (((((w35.setCell ⟨gb738, 0, none⟩ (.slice Ao36 t724.length co36)).setCell ⟨gb738, 1, none⟩ (.slice Ao38 t727.length co38)).setCell ⟨gb738, 2, none⟩ (.int .i64 t730)).setCell ⟨gb738, 3, none⟩ (.slice Ao41 t731.length co41)).setCell ⟨gb738, 4, none⟩ (.slice Ao43 t734.length co43)) w.heap.size (fun k_ => (w.heap.size ≤ k_) ∧ ax k_ (.slice Ao38 t727.length co38) ∧ ax k_ (.slice Ao43 t734.length co43)) (.slice Ao41 t731.length co41) t731) := ⟨uR (Kd.R_mono (Kd.R_far (p := ⟨gb738, 4, none⟩) (Kd.R_far (p := ⟨gb738, 3, none⟩) (Kd.R_far (p := ⟨gb738, 2, none⟩) (Kd.R_far (p := ⟨gb738, 1, none⟩) (Kd.R_far (p := ⟨gb738, 0, none⟩) (Kd.R_types HO733.out BK738.out (by decide)) (fun _ hk => hk.2) (.slice Ao36 t724.length co36)) (fun _ hk => hk.2) (.slice Ao38 t727.length co38)) (fun _ hk => hk.2) (.int .i64 t730)) (fun _ hk => hk.2) (.slice Ao41 t731.length co41)) (fun _ hk => hk.2) (.slice Ao43 t734.length co43)) (fun _ hk => ⟨hk.1.1, ⟨hk.1.2.1, hk.1.2.2⟩⟩))⟩
   have n5_ : Aside0 (Kd.R (Kd.int .i64) 2 (((((w35.setCell ⟨gb738, 0, none⟩ (.slice Ao36 t724.length co36)).setCell ⟨gb738, 1, none⟩ (.slice Ao38 t727.length co38)).setCell ⟨gb738, 2, none⟩ (.int .i64 t730)).setCell ⟨gb738, 3, none⟩ (.slice Ao41 t731.length co41)).setCell ⟨gb738, 4, none⟩ (.slice Ao43 t734.length co43)) w.heap.size (fun k_ => (w.heap.size ≤ k_) ∧ ax k_ (.slice Ao38 t727.length co38) ∧ ax k_ (.slice Ao41 t731.length co41)) (.slice Ao43 t734.length co43) t734) := ⟨uR (Kd.R_mono (Kd.R_far (p := ⟨gb738, 4, none⟩) (Kd.R_far (p := ⟨gb738, 3, none⟩) (Kd.R_far (p := ⟨gb738, 2, none⟩) (Kd.R_far (p := ⟨gb738, 1, none⟩) (Kd.R_far (p := ⟨gb738, 0, none⟩) (Kd.R_types HO736.out BK738.out (by decide)) (fun _ hk => hk.2) (.slice Ao36 t724.length co36)) (fun _ hk => hk.2) (.slice Ao38 t727.length co38)) (fun _ hk => hk.2) (.int .i64 t730)) (fun _ hk => hk.2) (.slice Ao41 t731.length co41)) (fun _ hk => hk.2) (.slice Ao43 t734.length co43)) (fun _ hk => ⟨hk.1.1, ⟨hk.1.2.1, hk.1.2.2⟩⟩))⟩
   have n6_ : Aside0 ((((((w35.setCell ⟨gb738, 0, none⟩ (.slice Ao36 t724.length co36)).setCell ⟨gb738, 1, none⟩ (.slice Ao38 t727.length co38)).setCell ⟨gb738, 2, none⟩ (.int .i64 t730)).setCell ⟨gb738, 3, none⟩ (.slice Ao41 t731.length co41)).setCell ⟨gb738, 4, none⟩ (.slice Ao43 t734.length co43)).heap[gb716]? = some (.cells #[.int .i64 a0_0, .slice A0_1 l0_1.length c0_1] 40 (0, 0))) := ⟨by (repeat refine up1 ?_); refine blk_far ?_ NB716_738.out _; (repeat refine up1 ?_); refine blk_far ?_ NB716_738.out _; (repeat refine up1 ?_); refine blk_far ?_ NB716_738.out _; (repeat refine up1 ?_); refine blk_far ?_ NB716_738.out _; (repeat refine up1 ?_); refine blk_far ?_ NB716_738.out _; (repeat refine up1 ?_); exact BK716.out⟩
   have n7_ : Aside0 ((((((w35.setCell ⟨gb738, 0, none⟩ (.slice Ao36 t724.length co36)).setCell ⟨gb738, 1, none⟩ (.slice Ao38 t727.length co38)).setCell ⟨gb738, 2, none⟩ (.int .i64 t730)).setCell ⟨gb738, 3, none⟩ (.slice Ao41 t731.length co41)).setCell ⟨gb738, 4, none⟩ (.slice Ao43 t734.length co43)).heap[gb717]? = some (.cells #[.slice A1 l1.length c1] 22 (0, 0))) := ⟨by (repeat refine up1 ?_); refine blk_far ?_ NB717_738.out _; (repeat refine up1 ?_); refine blk_far ?_ NB717_738.out _; (repeat refine up1 ?_); refine blk_far ?_ NB717_738.out _; (repeat refine up1 ?_); refine blk_far ?_ NB717_738.out _; (repeat refine up1 ?_); refine blk_far ?_ NB717_738.out _; (repeat refine up1 ?_); exact BK717.out⟩
   have n8_ : Aside0 ((((((w35.setCell ⟨gb738, 0, none⟩ (.slice Ao36 t724.length co36)).setCell ⟨gb738, 1, none⟩ (.slice Ao38 t727.length co38)).setCell ⟨gb738, 2, none⟩ (.int .i64 t730)).setCell ⟨gb738, 3, none⟩ (.slice Ao41 t731.length co41)).setCell ⟨gb738, 4, none⟩ (.slice Ao43 t734.length co43)).heap[gb738]? = some (.cells #[.slice Ao36 t724.length co36, .slice Ao38 t727.length co38, .int .i64 t730, .slice Ao41 t731.length co41, .slice Ao43 t734.length co43] 95 (0, 0))) := ⟨by (repeat refine up1 ?_); refine blk_put (cs := #[.slice Ao36 t724.length co36, .slice Ao38 t727.length co38, .int .i64 t730, .slice Ao41 t731.length co41, .slice none 0 0]) ?_ 4 _ rfl; (repeat refine up1 ?_); refine blk_put (cs := #[.slice Ao36 t724.length co36, .slice Ao38 t727.length co38, .int .i64 t730, .slice none 0 0, .slice none 0 0]) ?_ 3 _ rfl; (repeat refine up1 ?_); refine blk_put (cs := #[.slice Ao36 t724.length co36, .slice Ao38 t727.length co38, .int .i64 0, .slice none 0 0, .slice none 0 0]) ?_ 2 _ rfl; (repeat refine up1 ?_); refine blk_put (cs := #[.slice Ao36 t724.length co36, .slice none 0 0, .int .i64 0, .slice none 0 0, .slice none 0 0]) ?_ 1 _ rfl; (repeat refine up1 ?_); refine blk_put (cs := #[.slice none 0 0, .slice none 0 0, .int .i64 0, .slice none 0 0, .slice none 0 0]) ?_ 0 _ rfl; (repeat refine up1 ?_); exact BK738.out⟩
   have n9_ : Aside0 (Below w.heap.size w (((((w35.setCell ⟨gb738, 0, none⟩ (.slice Ao36 t724.length co36)).setCell ⟨gb738, 1, none⟩ (.slice Ao38 t727.length co38)).setCell ⟨gb738, 2, none⟩ (.int .i64 t730)).setCell ⟨gb738, 3, none⟩ (.slice Ao41 t731.length co41)).setCell ⟨gb738, 4, none⟩ (.slice Ao43 t734.length co43))) := ⟨uH HB.out⟩
   (try clear HO1); (try clear HO721); (try clear HO726); (try clear HO729); (try clear HO733); (try clear HO736); (try clear BK716); (try clear BK717); (try clear BK738); (try clear HB)
   generalize (((((w35.setCell ⟨gb738, 0, none⟩ (.slice Ao36 t724.length co36)).setCell ⟨gb738, 1, none⟩ (.slice Ao38 t727.length co38)).setCell ⟨gb738, 2, none⟩ (.int .i64 t730)).setCell ⟨gb738, 3, none⟩ (.slice Ao41 t731.length co41)).setCell ⟨gb738, 4, none⟩ (.slice Ao43 t734.length co43)) = w45 at n0_ n1_ n2_ n3_ n4_ n5_ n6_ n7_ n8_ n9_ ⊢
   have HO1 := n0_
   have HO721 := n1_
   have HO726 := n2_
   have HO729 := n3_
   have HO733 := n4_
   have HO736 := n5_
   have BK716 := n6_
   have BK717 := n7_
   have BK738 := n8_
   have HB := n9_
   clear n0_ n1_ n2_ n3_ n4_ n5_ n6_ n7_ n8_ n9_
   replace HO1 := zA (Kd.V_drew HO1.out)
   replace HO721 := zA (Kd.N_drew HO721.out)
   replace HO726 := zA (Kd.N_drew HO726.out)
   replace HO729 := zA (Kd.R_drew HO729.out)
   replace HO733 := zA (Kd.R_drew HO733.out)
   replace HO736 := zA (Kd.R_drew HO736.out)
   replace BK716 := zA (blk_drew BK716.out)
   replace BK717 := zA (blk_drew BK717.out)
   replace BK738 := zA (blk_drew BK738.out)
   replace HB := zA (below_drew1 HB.out)
   refine start_ (n := 8) (S := fun w' => w'.cell? ⟨gb716, 0, none⟩ = some (.int .i64 a0_0) ∧ w'.cell? ⟨gb716, 1, none⟩ = some (.slice A0_1 l0_1.length c0_1) ∧ w'.cell? ⟨gb717, 0, none⟩ = some (.slice A1 l1.length c1) ∧ w'.cell? ⟨gb738, 0, none⟩ = some (.slice Ao36 t724.length co36) ∧ w'.cell? ⟨gb738, 1, none⟩ = some (.slice Ao38 t727.length co38) ∧ w'.cell? ⟨gb738, 2, none⟩ = some (.int .i64 t730) ∧ w'.cell? ⟨gb738, 3, none⟩ = some (.slice Ao41 t731.length co41) ∧ w'.cell? ⟨gb738, 4, none⟩ = some (.slice Ao43 t734.length co43)) (ds := []) #[false, false, false, false, false, false, false, false] (by kernel_rfl) rfl rfl ⟨bcu BK716 0, bcu BK716 1, bcu BK717 0, bcu BK738 0, bcu BK738 1, bcu BK738 2, bcu BK738 3, bcu BK738 4⟩ (fun hHeld => ?_); refine with_tabW impl_ExpandPolynomial.tab9 impl_ExpandPolynomial.bits9 (fun HT_ HW_ => ?_)
   generalize w45.drew = w46 at HO1 HO721 HO726 HO729 HO733 HO736 BK716 BK717 BK738 HB hHeld ⊢
   refine pu_ 3 32 (bl 8 8) HT_ ?_
   refine ta_ 0 29 (bl 8 9) HT_ HW_ hHeld ?_
   refine ta_ 2 31 (bl 8 13) HT_ HW_ hHeld ?_
   refine ta_ 4 33 (bl 8 29) HT_ HW_ hHeld ?_
   refine on_ 1 (some 30) (bl 8 31) HT_ (fun K hK => ?_)
   refine gS Try.func75 #[.agg #[.int .i64 a0_0, .slice A0_1 l0_1.length c0_1]] ?_
   with_reducible refine (impl_Moments_field.calls a0_0 _ _ l0_1 t739 _ ?side1 ?side2 A20.out).mono ?_
   (case side1 => exact uC ((Kd.C_below HR0_1.out HB.out)))
   (case side2 => exact HC0_1.out)
   rintro e w47 ⟨rfl, hb⟩
   refine ⟨_, rfl, ?_⟩
   replace HO1 := zA (Kd.V_below (by (with_reducible repeat (first | apply Kd.V_alloc | apply Kd.V_drewN | apply Kd.V_drew)); exact HO1.out) hb)
   replace HO721 := zA (Kd.N_below (by (with_reducible repeat (first | apply Kd.N_alloc | apply Kd.N_drewN | apply Kd.N_drew)); exact HO721.out) hb)
   replace HO726 := zA (Kd.N_below (by (with_reducible repeat (first | apply Kd.N_alloc | apply Kd.N_drewN | apply Kd.N_drew)); exact HO726.out) hb)
   replace HO729 := xR HO729 hb
   replace HO733 := xR HO733 hb
   replace HO736 := xR HO736 hb
   replace BK716 := xB BK716 hb
   replace BK717 := xB BK717 hb
   replace BK738 := xB BK738 hb
   replace HB := xH HB hb
   (try clear hb); (try clear hb2); (try clear hk); (try clear hi)
   refine hK.out _ _ ⟨bcu BK716 0, bcu BK716 1, bcu BK717 0, bcu BK738 0, bcu BK738 1, bcu BK738 2, bcu BK738 3, bcu BK738 4⟩ (fun hHeld => ?_)
   clear hK K
   refine no_ 30 ?_
   refine on_ 5 (some 34) (bl 8 63) HT_ (fun K hK => ?_)
   refine gS Try.func105 #[.int .i64 t739, .slice A1 l1.length c1, .slice Ao36 t724.length co36] ?_
   with_reducible refine (impl_field_expand.calls k t739 (fun k_ => ((P1_ k_ ∨ w.heap.size ≤ k_) ∧ (ax k_ (.slice Ao29 y719.length co29) ∧ (ax k_ (.slice Ao36 t724.length co36) ∧ (ax k_ (.slice Ao38 t727.length co38) ∧ (ax k_ (.slice Ao41 t731.length co41) ∧ (ax k_ (.slice Ao43 t734.length co43) ∧ (k_ ≠ gb716 ∧ (k_ ≠ gb717 ∧ k_ ≠ gb738))))))))) _ _ l1 _ _ t724 t740 _ ?side1 ?side2 ?side3 A21.out).mono ?_
   (case side1 => exact HO1.out)
   (case side2 => exact uC ((Kd.N_reads' HO726.out).2.2))
   (case side3 => exact (Kd.N_reads' HO726.out).2.1)
   rintro e w48 ⟨v741, rfl, ho0, hb⟩
   refine ⟨_, rfl, ?_⟩
   replace HO1 := zA (Kd.V_elder' (by (with_reducible repeat (first | apply Kd.V_alloc | apply Kd.V_drewN | apply Kd.V_drew)); exact HO1.out) (Kd.R_base ho0) hb)
   replace HO721 := zA (Kd.N_elder' (by (with_reducible repeat (first | apply Kd.N_alloc | apply Kd.N_drewN | apply Kd.N_drew)); exact HO721.out) (Kd.R_base ho0) hb)
   replace HO726 := zA (Kd.N_elder' (by (with_reducible repeat (first | apply Kd.N_alloc | apply Kd.N_drewN | apply Kd.N_drew)); exact HO726.out) (Kd.R_base ho0) hb)
   have HO742 := zA (Kd.R_lower (Kd.R_new' (Kd.R_new' (Kd.R_new' (Kd.R_newM (M := fun k_ => (w.heap.size ≤ k_)) (Kd.R_mono (ok' := fun k_ => True) ho0 (fun _ hk_ => trivial)) (below_size (uH HB.out)) (fun k_ h_ => h_)) (Kd.R_lt (uR HO729.out))) (Kd.R_lt (uR HO733.out))) (Kd.R_lt (uR HO736.out))) (below_size (uH HB.out)))
   replace HO729 := zA (Kd.R_elder' (uR HO729.out) (Kd.R_base ho0) hb)
   replace HO733 := zA (Kd.R_elder' (uR HO733.out) (Kd.R_base ho0) hb)
   replace HO736 := zA (Kd.R_elder' (uR HO736.out) (Kd.R_base ho0) hb)
   replace BK716 := xB BK716 hb
   replace BK717 := xB BK717 hb
   replace BK738 := xB BK738 hb
   replace HB := xH HB hb
   (try clear hb); (try clear hb2); (try clear hk); (try clear hi); (try clear ho0)
   refine hK.out _ _ ⟨bcu BK716 0, bcu BK716 1, bcu BK717 0, bcu BK738 0, bcu BK738 1, bcu BK738 2, bcu BK738 3, bcu BK738 4⟩ (fun hHeld => ?_)
   clear hK K
   refine no_ 34 ?_
   refine pu_ 6 4 (bl 8 127) HT_ ?_
   refine pu_ 7 5 (bl 8 255) HT_ ?_
   refine done_ (done_of HT_.out (by kernel_rfl)) ?_
   try go_wp2
   go_ret2
   exact ⟨_, by first | rfl | (simp [errW_none, errW_some] <;> rfl) | (simp [*, errW_none, errW_some] <;> rfl), uR (Kd.R_mono HO742.out (fun _ hk => hk.1.1.1.1)), uH HB.out⟩
  ·replace c19 := Bool.eq_false_iff.mpr c19
   subst c19
   have H1 : (some (([] : List Int), 5)) = some (r1, r2) := by rw [if_neg (show ¬ (false = true) by decide)] at H; exact H
   clear H
   have H := H1
   clear H1
   simp only [Option.some.injEq, Prod.mk.injEq] at H
   obtain ⟨rfl, rfl⟩ := H
   go_enter Try.func46, Try.ntmps46
   try go_wp2_with (first | ((with_reducible refine gate_dst (N := 2) rfl ?_); refine bx 2 #[.int .i64 a0_0, .slice A0_1 l0_1.length c0_1] 40 ?_; intro gb716 hg w49 hbox hb; replace HO1 := zA (Kd.V_below (Kd.V_elderB (by (with_reducible repeat (first | apply Kd.V_alloc | apply Kd.V_drewN | apply Kd.V_drew)); exact HO1.out) gb716 (Nat.le_of_eq hg.symm)) hb); have BK716 := zA (hbox); have GW716 := gq HB hg; have GE716 := gq HB hg; replace HB := xH HB hb; have := geI GE716; clear hb hbox hg) | ((with_reducible refine gate_dst (N := 3) rfl ?_); refine bx 3 #[.slice A1 l1.length c1] 22 ?_; intro gb717 hg w50 hbox hb; replace HO1 := zA (Kd.V_below (Kd.V_elderB (by (with_reducible repeat (first | apply Kd.V_alloc | apply Kd.V_drewN | apply Kd.V_drew)); exact HO1.out) gb717 (Nat.le_of_eq hg.symm)) hb); have BK717 := zA (hbox); have GW717 := gq HB hg; have GE717 := gq HB hg; replace HB := xH HB hb; have NB716_717 := zA ((by rw [hg]; exact neL BK716 : gb716 ≠ gb717)); have NB717_716 := zA ((by rw [hg]; exact neG BK716 : gb717 ≠ gb716)); replace BK716 := xB BK716 hb; have := geI GE717; clear hb hbox hg; have hnb51 := NB716_717.out; have hnc51 := NB717_716.out; have hcz52_0 := bc BK716 0; have hcz52_1 := bc BK716 1; have hfz52_0 := bf BK716 0; have hfz52_1 := bf BK716 1; have hcz53_0 := bc BK717 0; have hfz53_0 := bf BK717 0) | ((with_reducible refine gate_dst (N := 12) rfl ?_); refine Kd.N_lit (Kd.slice 2 (Kd.int .i64)) _ 22 ?hg (N' := 12) ?hd (xs := ([l1] : List (List Int))) (inner := [.slice A1 l1.length c1]) (ok := (fun k_ => (P1_ k_ ∨ w.heap.size ≤ k_) ∧ k_ ≠ gb716 ∧ k_ ≠ gb717)) (okp := (fun k_ => (P1_ k_ ∨ w.heap.size ≤ k_) ∧ k_ ≠ gb716 ∧ k_ ≠ gb717)) ?hr ?hp (fun _ hk => hk) ((show ∀ k_, w50.heap.size ≤ k_ → (fun k_ => (P1_ k_ ∨ w.heap.size ≤ k_) ∧ k_ ≠ gb716 ∧ k_ ≠ gb717) k_ from fun k_ hk => ⟨(.inr (Nat.le_trans (below_size (uH HB.out)) hk)), Kd.freshB (g := gb716) (o := .cells #[.int .i64 a0_0, .slice A0_1 l0_1.length c0_1] 40 (0, 0)) (uB BK716.out) k_ hk, Kd.freshB (g := gb717) (o := .cells #[.slice A1 l1.length c1] 22 (0, 0)) (uB BK717.out) k_ hk⟩) _ (Nat.le_refl _)) (Below.refl _ _) (Nat.le_refl _) (by simp) ?_; (case hd => rfl); (case hg => rfl); (case hr => first | (go_simp; done) | (go_simp; rfl)); (case hp => exact (Reps.one (show Kd.FK (Kd.slice 2 (Kd.int .i64)) _ _ l1 [.slice A1 l1.length c1] from (Kd.FK_slice_mk (Kd.V_reads' (Kd.V_mono (ok' := (fun k_ => (P1_ k_ ∨ w.heap.size ≤ k_) ∧ k_ ≠ gb716 ∧ k_ ≠ gb717)) (HO1.out) (fun k_ hk => ⟨hk.1.1, ⟨hk.1.2, hk.2⟩⟩))).2.1 (Kd.V_F (Kd.V_mono (ok' := (fun k_ => (P1_ k_ ∨ w.heap.size ≤ k_) ∧ k_ ≠ gb716 ∧ k_ ≠ gb717)) (HO1.out) (fun k_ hk => ⟨hk.1.1, ⟨hk.1.2, hk.2⟩⟩))))) (Reps.none _ _))); intro v720 w54 ho55 hb hg_ hnew_; clear hg_ hnew_; (first | rw [← Ny719.out] at ho55 | (simp only [Int.reduceToNat] at ho55; rw [← Ny719.out] at ho55)); replace HO1 := zA (Kd.V_elder' (by (with_reducible repeat (first | apply Kd.V_alloc | apply Kd.V_drewN | apply Kd.V_drew)); exact HO1.out) (Kd.N_base ho55) hb); have HO721 := zA (Kd.N_lower ho55 (below_size (uH HB.out))); replace BK716 := xB BK716 hb; replace BK717 := xB BK717 hb; replace HB := xH HB hb; clear hb ho55; obtain ⟨Ao56, co56, eo56⟩ := Kd.N_slice HO721.out; subst eo56) | ((with_reducible refine gate_callee (f := 68) rfl ?_); refine gL (some 13) Try.func68 #[.agg #[.int .i64 a0_0, .slice A0_1 l0_1.length c0_1], (.func (.func 103) #[] #[.pointer (some ⟨gb717, 0, none⟩)]), .slice Ao56 y719.length co56] ?_; (with_reducible refine (impl_momentsCode.calls k a0_0 _ _ l0_1 _ t718 _ _ y719 t722 _ ?side1 ?side2 ?side3 ?side4 ?side5 A4.out).mono ?_); (case side1 => exact uC ((Kd.C_below HR0_1.out HB.out))); (case side2 => exact HC0_1.out); (case side3 => exact FnB.of Try.func103 (by kernel_rfl) rfl (fun W_ hW_ => calls_of_args (args' := #[.pointer (some ⟨gb717, 0, none⟩)]) (by simp) ((impl_ExpandPolynomial_1.calls _ _ _ l1 _ W_ (blk_below (g := gb717) (o := .cells #[.slice A1 l1.length c1] 22 (0, 0)) (uB BK717.out) hW_) (Kd.C_below (by exact uC ((Kd.V_reads' HO1.out).2.2)) hW_) (by exact (Kd.V_reads' HO1.out).2.1) A3.out).mono fun e_ W2_ h_ => ⟨h_.1, h_.2.below⟩))); (case side4 => exact uC ((Kd.N_reads' HO721.out).2.2)); (case side5 => exact (Kd.N_reads' HO721.out).2.1); rintro e w57 ⟨rfl, hb⟩; refine ⟨_, rfl, ?_⟩; replace HO1 := zA (Kd.V_below (by (with_reducible repeat (first | apply Kd.V_alloc | apply Kd.V_drewN | apply Kd.V_drew)); exact HO1.out) hb); replace HO721 := zA (Kd.N_below (by (with_reducible repeat (first | apply Kd.N_alloc | apply Kd.N_drewN | apply Kd.N_drew)); exact HO721.out) hb); replace BK716 := xB BK716 hb; replace BK717 := xB BK717 hb; replace HB := xH HB hb; (try clear hb); (try clear hb2); (try clear hk); (try clear hi); have hcz58_0 := bc BK717 0; have hfz58_0 := bf BK717 0))
   replace HO1 := zA (Kd.V_drew HO1.out)
   replace HO721 := zA (Kd.N_drew HO721.out)
   replace BK716 := zA (blk_drew BK716.out)
   replace BK717 := zA (blk_drew BK717.out)
   replace HB := zA (below_drew1 HB.out)
   refine start_ (n := 10) (S := fun w' => w'.cell? ⟨gb716, 0, none⟩ = some (.int .i64 a0_0) ∧ w'.cell? ⟨gb716, 1, none⟩ = some (.slice A0_1 l0_1.length c0_1) ∧ w'.cell? ⟨gb717, 0, none⟩ = some (.slice A1 l1.length c1)) (ds := []) #[false, false, false, false, false, false, false, false, false, false] (by kernel_rfl) rfl rfl ⟨bcu BK716 0, bcu BK716 1, bcu BK717 0⟩ (fun hHeld => ?_); refine with_tabW impl_ExpandPolynomial.tab6 impl_ExpandPolynomial.bits6 (fun HT_ HW_ => ?_)
   generalize w57.drew = w59 at HO1 HO721 BK716 BK717 HB hHeld ⊢
   refine ta_ 0 21 (bl 10 1) HT_ HW_ hHeld ?_
   refine ta_ 1 22 (bl 10 3) HT_ HW_ hHeld ?_
   refine join_ (σ := Value × Value × Value × Value × Nat) 2 (bl 10 255) (fun s_ => [(23, .int .i64 t723), (24, .tuple #[.agg #[s_.1, s_.2.1, .int .i64 t730, s_.2.2.1, s_.2.2.2.1], .bool false]), (7, .pointer (some ⟨s_.2.2.2.2, 0, none⟩)), (20, .tuple #[.agg #[s_.1, s_.2.1, .int .i64 t730, s_.2.2.1, s_.2.2.2.1], .bool false]), (25, .agg #[s_.1, s_.2.1, .int .i64 t730, s_.2.2.1, s_.2.2.2.1]), (26, .bool false)]) (fun s_ w' => (w'.cell? ⟨gb716, 0, none⟩ = some (.int .i64 a0_0) ∧ w'.cell? ⟨gb716, 1, none⟩ = some (.slice A0_1 l0_1.length c0_1) ∧ w'.cell? ⟨gb717, 0, none⟩ = some (.slice A1 l1.length c1)) ∧ (Kd.V (Kd.int .i64) 2 w' w.heap.size (fun k_ => (P1_ k_ ∨ w.heap.size ≤ k_) ∧ ax k_ (.slice Ao56 y719.length co56) ∧ some k_ ≠ (s_.1 : Value).ownBlock ∧ some k_ ≠ (s_.2.1 : Value).ownBlock ∧ some k_ ≠ (s_.2.2.1 : Value).ownBlock ∧ some k_ ≠ (s_.2.2.2.1 : Value).ownBlock ∧ k_ ≠ gb716 ∧ k_ ≠ gb717 ∧ k_ ≠ s_.2.2.2.2) (.slice A1 l1.length c1) l1) ∧ (Kd.N (Kd.slice 2 (Kd.int .i64)) 22 w' w.heap.size (fun k_ => (P1_ k_ ∨ w.heap.size ≤ k_) ∧ some k_ ≠ (s_.1 : Value).ownBlock ∧ some k_ ≠ (s_.2.1 : Value).ownBlock ∧ some k_ ≠ (s_.2.2.1 : Value).ownBlock ∧ some k_ ≠ (s_.2.2.2.1 : Value).ownBlock ∧ k_ ≠ gb716 ∧ k_ ≠ gb717 ∧ k_ ≠ s_.2.2.2.2) (.slice Ao56 y719.length co56) y719) ∧ (Kd.N (Kd.slice 2 (Kd.int .i64)) 22 w' w.heap.size (fun k_ => (P1_ k_ ∨ w.heap.size ≤ k_) ∧ ax k_ (.slice Ao56 y719.length co56) ∧ some k_ ≠ (s_.2.1 : Value).ownBlock ∧ some k_ ≠ (s_.2.2.1 : Value).ownBlock ∧ some k_ ≠ (s_.2.2.2.1 : Value).ownBlock ∧ k_ ≠ gb716 ∧ k_ ≠ gb717 ∧ k_ ≠ s_.2.2.2.2) s_.1 t724) ∧ (Kd.R (Kd.int .i64) 2 w' w.heap.size (fun k_ => (w.heap.size ≤ k_) ∧ some k_ ≠ (s_.2.2.1 : Value).ownBlock ∧ some k_ ≠ (s_.2.2.2.1 : Value).ownBlock) s_.2.1 t727) ∧ (Kd.R (Kd.int .i64) 2 w' w.heap.size (fun k_ => (w.heap.size ≤ k_) ∧ some k_ ≠ (s_.2.1 : Value).ownBlock ∧ some k_ ≠ (s_.2.2.2.1 : Value).ownBlock) s_.2.2.1 t731) ∧ (Kd.R (Kd.int .i64) 2 w' w.heap.size (fun k_ => (w.heap.size ≤ k_) ∧ some k_ ≠ (s_.2.1 : Value).ownBlock ∧ some k_ ≠ (s_.2.2.1 : Value).ownBlock) s_.2.2.2.1 t734) ∧ (w'.heap[gb716]? = some (.cells #[.int .i64 a0_0, .slice A0_1 l0_1.length c0_1] 40 (0, 0))) ∧ (w'.heap[gb717]? = some (.cells #[.slice A1 l1.length c1] 22 (0, 0))) ∧ (w'.heap[s_.2.2.2.2]? = some (.cells #[.slice none 0 0, .slice none 0 0, .int .i64 0, .slice none 0 0, .slice none 0 0] 95 (0, 0))) ∧ (w.heap.size ≤ s_.2.2.2.2) ∧ (w.heap.size ≤ s_.2.2.2.2) ∧ (gb716 ≠ s_.2.2.2.2) ∧ (s_.2.2.2.2 ≠ gb716) ∧ (gb717 ≠ s_.2.2.2.2) ∧ (s_.2.2.2.2 ≠ gb717) ∧ (Below w.heap.size w w')) ?_ ?_
   rotate_left
   ·intro hCont
    refine two_ (i := 2) (j := 7) (Ni := some 23) (Nj := some 7) (bl 10 7) (bl 10 131) rfl rfl rfl rfl (two_of HT_.out (by kernel_rfl)) (by decide) (by decide) (fun K hK => ?_) (fun K hK => ?_)
    ·skip
     refine gS Try.func104 #[.slice A1 l1.length c1] ?_
     with_reducible refine (impl_degree.calls _ _ l1 t723 _ ?side1 ?side2 A17.out).mono ?_
     (case side1 => exact uC ((Kd.V_reads' HO1.out).2.2))
     (case side2 => exact (Kd.V_reads' HO1.out).2.1)
     rintro e w' ⟨rfl, ⟨nd, rfl⟩⟩
     refine ⟨_, rfl, ?_⟩
     refine hK.out _ _ ⟨bcu BK716 0, bcu BK716 1, bcu BK717 0⟩ (fun hHeld => ?_)
     clear hK K
     refine no_ 23 ?_
     refine two_ (i := 3) (j := 7) (Ni := some 24) (Nj := some 7) (bl 10 15) (bl 10 135) rfl rfl rfl rfl (two_of HT_.out (by kernel_rfl)) (by decide) (by decide) (fun K hK => ?_) (fun K hK => ?_)
     ·skip
      refine gS Try.func88 #[.agg #[.int .i64 a0_0, .slice A0_1 l0_1.length c0_1], .int .i64 t723] ?_
      with_reducible refine (impl_Moments_upTo.calls k a0_0 _ _ l0_1 t723 t724 t727 t730 t731 t734 false _ ?side1 ?side2 A18.out).mono ?_
      (case side1 => repeat (first | exact (Kd.C_below HR0_1.out (uH HB.out)) | (with_reducible refine Kd.C_alloc ?_ _) | (with_reducible refine Kd.C_drewN ?_ _) | (with_reducible refine Kd.C_drew ?_)))
      (case side2 => exact HC0_1.out)
      rintro e w60 ⟨v725, v728, v732, v735, rfl, ho0, ho1, ho2, ho3, hb⟩
      refine ⟨_, rfl, ?_⟩
      replace HO1 := zA (Kd.V_mono (Kd.V_told (Kd.V_told (Kd.V_told (Kd.V_told (Kd.V_old (by (with_reducible repeat (first | apply Kd.V_alloc | apply Kd.V_drewN | apply Kd.V_drew)); exact HO1.out) hb) (Kd.N_base ho0)) (Kd.R_base ho1)) (Kd.R_base ho2)) (Kd.R_base ho3)) (fun _ h_ => h_.1))
      have HO726 := zA (Kd.N_lower (Kd.N_mono (ok' := fun k_ => (P1_ k_ ∨ w.heap.size ≤ k_) ∧ some k_ ≠ (v728 : Value).ownBlock ∧ some k_ ≠ (v732 : Value).ownBlock ∧ some k_ ≠ (v735 : Value).ownBlock ∧ ax k_ (.slice Ao56 y719.length co56) ∧ k_ ≠ gb716 ∧ k_ ≠ gb717) ho0 (fun k_ hk_ => ⟨(.inr (Nat.le_trans (below_size (uH HB.out)) hk_.1)), hk_.2.1, hk_.2.2.1, hk_.2.2.2, (Kd.fresh' (Kd.N_lt (by (with_reducible repeat (first | apply Kd.N_alloc | apply Kd.N_drewN | apply Kd.N_drew)); exact HO721.out)) k_ hk_.1), (Kd.freshB (g := gb716) (o := .cells #[.int .i64 a0_0, .slice A0_1 l0_1.length c0_1] 40 (0, 0)) (uB BK716.out) k_ hk_.1), (Kd.freshB (g := gb717) (o := .cells #[.slice A1 l1.length c1] 22 (0, 0)) (uB BK717.out) k_ hk_.1)⟩)) (below_size (uH HB.out)))
      replace HO721 := zA (Kd.N_mono (Kd.N_told (Kd.N_told (Kd.N_told (Kd.N_told (Kd.N_old (by (with_reducible repeat (first | apply Kd.N_alloc | apply Kd.N_drewN | apply Kd.N_drew)); exact HO721.out) hb) (Kd.N_base ho0)) (Kd.R_base ho1)) (Kd.R_base ho2)) (Kd.R_base ho3)) (fun _ h_ => h_.1))
      have HO729 := zA (Kd.R_lower (Kd.R_newM (M := fun k_ => (w.heap.size ≤ k_)) (Kd.R_mono (ok' := fun k_ => some k_ ≠ (v732 : Value).ownBlock ∧ some k_ ≠ (v735 : Value).ownBlock) ho1 (fun _ hk_ => hk_.2)) (below_size (uH HB.out)) (fun k_ h_ => h_)) (below_size (uH HB.out)))
      have HO733 := zA (Kd.R_lower (Kd.R_newM (M := fun k_ => (w.heap.size ≤ k_)) (Kd.R_mono (ok' := fun k_ => some k_ ≠ (v728 : Value).ownBlock ∧ some k_ ≠ (v735 : Value).ownBlock) ho2 (fun _ hk_ => hk_.2)) (below_size (uH HB.out)) (fun k_ h_ => h_)) (below_size (uH HB.out)))
      have HO736 := zA (Kd.R_lower (Kd.R_newM (M := fun k_ => (w.heap.size ≤ k_)) (Kd.R_mono (ok' := fun k_ => some k_ ≠ (v728 : Value).ownBlock ∧ some k_ ≠ (v732 : Value).ownBlock) ho3 (fun _ hk_ => hk_.2)) (below_size (uH HB.out)) (fun k_ h_ => h_)) (below_size (uH HB.out)))
      replace BK716 := xB BK716 hb
      replace BK717 := xB BK717 hb
      replace HB := xH HB hb
      (try clear hb); (try clear hb2); (try clear hk); (try clear hi); (try clear ho0); (try clear ho1); (try clear ho2); (try clear ho3)
      refine hK.out _ _ ⟨bcu BK716 0, bcu BK716 1, bcu BK717 0⟩ (fun hHeld => ?_)
      clear hK K
      refine no_ 24 ?_
      refine pu_ 4 20 (bl 10 31) HT_ ?_
      refine pu_ 5 25 (bl 10 63) HT_ ?_
      refine pu_ 6 26 (bl 10 127) HT_ ?_
      refine on_ 7 (some 7) (bl 10 255) HT_ (fun K hK => ?_)
      refine box_step ?hg (N := 7) ?hd (cs := #[.slice none 0 0, .slice none 0 0, .int .i64 0, .slice none 0 0, .slice none 0 0]) (t := 95) ?hr ?_; (case hd => rfl); (case hg => rfl); (case hr => first | (go_simp; done) | (go_simp; rfl))
      intro gb738 hg w61 hbox hb
      replace HO1 := zA (Kd.V_below (Kd.V_elderB (by (with_reducible repeat (first | apply Kd.V_alloc | apply Kd.V_drewN | apply Kd.V_drew)); exact HO1.out) gb738 (Nat.le_of_eq hg.symm)) hb)
      replace HO721 := zA (Kd.N_below (Kd.N_elderB (by (with_reducible repeat (first | apply Kd.N_alloc | apply Kd.N_drewN | apply Kd.N_drew)); exact HO721.out) gb738 (Nat.le_of_eq hg.symm)) hb)
      replace HO726 := zA (Kd.N_below (Kd.N_elderB (by (with_reducible repeat (first | apply Kd.N_alloc | apply Kd.N_drewN | apply Kd.N_drew)); exact HO726.out) gb738 (Nat.le_of_eq hg.symm)) hb)
      replace HO729 := xR HO729 hb
      replace HO733 := xR HO733 hb
      replace HO736 := xR HO736 hb
      have BK738 := zA (hbox)
      have GW738 := gq HB hg
      have GE738 := gq HB hg
      replace HB := xH HB hb
      have NB716_738 := zA ((by rw [hg]; exact neL BK716 : gb716 ≠ gb738))
      have NB738_716 := zA ((by rw [hg]; exact neG BK716 : gb738 ≠ gb716))
      replace BK716 := xB BK716 hb
      have NB717_738 := zA ((by rw [hg]; exact neL BK717 : gb717 ≠ gb738))
      have NB738_717 := zA ((by rw [hg]; exact neG BK717 : gb738 ≠ gb717))
      replace BK717 := xB BK717 hb
      have := geI GE738
      clear hb hbox hg
      refine hK.out _ _ ⟨bcu BK716 0, bcu BK716 1, bcu BK717 0⟩ (fun hHeld => ?_)
      clear hK K
      refine no_ 7 ?_
      exact norm_ (by simp only [putAll, Act.put, ls, lz, ln]) (hCont (v725, v728, v732, v735, gb738) _ ⟨hHeld, (by (with_reducible repeat (first | apply Kd.V_alloc | apply Kd.V_drewN | apply Kd.V_drew)); exact Kd.V_mono HO1.out (fun _ hk => ⟨hk.1.1.1.1.1.1.1.1, ⟨hk.1.1.1.1.1.2, ⟨hk.1.1.1.1.2, ⟨hk.1.1.1.2, ⟨hk.1.1.2, ⟨hk.1.2, ⟨hk.1.1.1.1.1.1.1.2, ⟨hk.1.1.1.1.1.1.2, hk.2⟩⟩⟩⟩⟩⟩⟩⟩)), (by (with_reducible repeat (first | apply Kd.N_alloc | apply Kd.N_drewN | apply Kd.N_drew)); exact Kd.N_mono HO721.out (fun _ hk => ⟨hk.1.1.1.1.1.1, ⟨hk.1.1.1.1.2, ⟨hk.1.1.1.2, ⟨hk.1.1.2, ⟨hk.1.2, ⟨hk.1.1.1.1.1.2.1, ⟨hk.1.1.1.1.1.2.2, hk.2⟩⟩⟩⟩⟩⟩⟩)), (by (with_reducible repeat (first | apply Kd.N_alloc | apply Kd.N_drewN | apply Kd.N_drew)); exact Kd.N_mono HO726.out (fun _ hk => ⟨hk.1.1, ⟨hk.1.2.2.2.2.1, ⟨hk.1.2.1, ⟨hk.1.2.2.1, ⟨hk.1.2.2.2.1, ⟨hk.1.2.2.2.2.2.1, ⟨hk.1.2.2.2.2.2.2, hk.2⟩⟩⟩⟩⟩⟩⟩)), (uR HO729.out), (uR HO733.out), (uR HO736.out), (uB BK716.out), (uB BK717.out), (uB BK738.out), GW738.out, GE738.out, NB716_738.out, NB738_716.out, NB717_738.out, NB738_717.out, (uH HB.out)⟩)
     ·skip
      refine box_step ?hg (N := 7) ?hd (cs := #[.slice none 0 0, .slice none 0 0, .int .i64 0, .slice none 0 0, .slice none 0 0]) (t := 95) ?hr ?_; (case hd => rfl); (case hg => rfl); (case hr => first | (go_simp; done) | (go_simp; rfl))
      intro gb738 hg w60 hbox hb
      replace HO1 := zA (Kd.V_below (Kd.V_elderB (by (with_reducible repeat (first | apply Kd.V_alloc | apply Kd.V_drewN | apply Kd.V_drew)); exact HO1.out) gb738 (Nat.le_of_eq hg.symm)) hb)
      replace HO721 := zA (Kd.N_below (Kd.N_elderB (by (with_reducible repeat (first | apply Kd.N_alloc | apply Kd.N_drewN | apply Kd.N_drew)); exact HO721.out) gb738 (Nat.le_of_eq hg.symm)) hb)
      have BK738 := zA (hbox)
      have GW738 := gq HB hg
      have GE738 := gq HB hg
      replace HB := xH HB hb
      have NB716_738 := zA ((by rw [hg]; exact neL BK716 : gb716 ≠ gb738))
      have NB738_716 := zA ((by rw [hg]; exact neG BK716 : gb738 ≠ gb716))
      replace BK716 := xB BK716 hb
      have NB717_738 := zA ((by rw [hg]; exact neL BK717 : gb717 ≠ gb738))
      have NB738_717 := zA ((by rw [hg]; exact neG BK717 : gb738 ≠ gb717))
      replace BK717 := xB BK717 hb
      have := geI GE738
      clear hb hbox hg
      refine hK.out _ _ ⟨bcu BK716 0, bcu BK716 1, bcu BK717 0⟩ (fun hHeld => ?_)
      clear hK K
      refine no_ 7 ?_
      refine on_ 3 (some 24) (bl 10 143) HT_ (fun K hK => ?_)
      refine gS Try.func88 #[.agg #[.int .i64 a0_0, .slice A0_1 l0_1.length c0_1], .int .i64 t723] ?_
      with_reducible refine (impl_Moments_upTo.calls k a0_0 _ _ l0_1 t723 t724 t727 t730 t731 t734 false _ ?side1 ?side2 A18.out).mono ?_
      (case side1 => exact uC ((Kd.C_below HR0_1.out HB.out)))
      (case side2 => exact HC0_1.out)
      rintro e w61 ⟨v725, v728, v732, v735, rfl, ho0, ho1, ho2, ho3, hb⟩
      refine ⟨_, rfl, ?_⟩
      replace HO1 := zA (Kd.V_mono (Kd.V_told (Kd.V_told (Kd.V_told (Kd.V_told (Kd.V_old (by (with_reducible repeat (first | apply Kd.V_alloc | apply Kd.V_drewN | apply Kd.V_drew)); exact HO1.out) hb) (Kd.N_base ho0)) (Kd.R_base ho1)) (Kd.R_base ho2)) (Kd.R_base ho3)) (fun _ h_ => h_.1))
      have HO726 := zA (Kd.N_lower (Kd.N_mono (ok' := fun k_ => (P1_ k_ ∨ w.heap.size ≤ k_) ∧ some k_ ≠ (v728 : Value).ownBlock ∧ some k_ ≠ (v732 : Value).ownBlock ∧ some k_ ≠ (v735 : Value).ownBlock ∧ ax k_ (.slice Ao56 y719.length co56) ∧ k_ ≠ gb716 ∧ k_ ≠ gb717 ∧ k_ ≠ gb738) ho0 (fun k_ hk_ => ⟨(.inr (Nat.le_trans (below_size (uH HB.out)) hk_.1)), hk_.2.1, hk_.2.2.1, hk_.2.2.2, (Kd.fresh' (Kd.N_lt (by (with_reducible repeat (first | apply Kd.N_alloc | apply Kd.N_drewN | apply Kd.N_drew)); exact HO721.out)) k_ hk_.1), (Kd.freshB (g := gb716) (o := .cells #[.int .i64 a0_0, .slice A0_1 l0_1.length c0_1] 40 (0, 0)) (uB BK716.out) k_ hk_.1), (Kd.freshB (g := gb717) (o := .cells #[.slice A1 l1.length c1] 22 (0, 0)) (uB BK717.out) k_ hk_.1), (Kd.freshB (g := gb738) (o := .cells #[.slice none 0 0, .slice none 0 0, .int .i64 0, .slice none 0 0, .slice none 0 0] 95 (0, 0)) (uB BK738.out) k_ hk_.1)⟩)) (below_size (uH HB.out)))
      replace HO721 := zA (Kd.N_mono (Kd.N_told (Kd.N_told (Kd.N_told (Kd.N_told (Kd.N_old (by (with_reducible repeat (first | apply Kd.N_alloc | apply Kd.N_drewN | apply Kd.N_drew)); exact HO721.out) hb) (Kd.N_base ho0)) (Kd.R_base ho1)) (Kd.R_base ho2)) (Kd.R_base ho3)) (fun _ h_ => h_.1))
      have HO729 := zA (Kd.R_lower (Kd.R_newM (M := fun k_ => (w.heap.size ≤ k_)) (Kd.R_mono (ok' := fun k_ => some k_ ≠ (v732 : Value).ownBlock ∧ some k_ ≠ (v735 : Value).ownBlock) ho1 (fun _ hk_ => hk_.2)) (below_size (uH HB.out)) (fun k_ h_ => h_)) (below_size (uH HB.out)))
      have HO733 := zA (Kd.R_lower (Kd.R_newM (M := fun k_ => (w.heap.size ≤ k_)) (Kd.R_mono (ok' := fun k_ => some k_ ≠ (v728 : Value).ownBlock ∧ some k_ ≠ (v735 : Value).ownBlock) ho2 (fun _ hk_ => hk_.2)) (below_size (uH HB.out)) (fun k_ h_ => h_)) (below_size (uH HB.out)))
      have HO736 := zA (Kd.R_lower (Kd.R_newM (M := fun k_ => (w.heap.size ≤ k_)) (Kd.R_mono (ok' := fun k_ => some k_ ≠ (v728 : Value).ownBlock ∧ some k_ ≠ (v732 : Value).ownBlock) ho3 (fun _ hk_ => hk_.2)) (below_size (uH HB.out)) (fun k_ h_ => h_)) (below_size (uH HB.out)))
      replace BK716 := xB BK716 hb
      replace BK717 := xB BK717 hb
      replace BK738 := xB BK738 hb
      replace HB := xH HB hb
      (try clear hb); (try clear hb2); (try clear hk); (try clear hi); (try clear ho0); (try clear ho1); (try clear ho2); (try clear ho3)
      refine hK.out _ _ ⟨bcu BK716 0, bcu BK716 1, bcu BK717 0⟩ (fun hHeld => ?_)
      clear hK K
      refine no_ 24 ?_
      refine pu_ 4 20 (bl 10 159) HT_ ?_
      refine pu_ 5 25 (bl 10 191) HT_ ?_
      refine pu_ 6 26 (bl 10 255) HT_ ?_
      exact norm_ (by simp only [putAll, Act.put, ls, lz, ln]) (hCont (v725, v728, v732, v735, gb738) _ ⟨hHeld, (by (with_reducible repeat (first | apply Kd.V_alloc | apply Kd.V_drewN | apply Kd.V_drew)); exact Kd.V_mono HO1.out (fun _ hk => ⟨hk.1.1.1.1.1.1.1.1, ⟨hk.1.1.1.1.1.2, ⟨hk.1.1.1.2, ⟨hk.1.1.2, ⟨hk.1.2, ⟨hk.2, ⟨hk.1.1.1.1.1.1.1.2, ⟨hk.1.1.1.1.1.1.2, hk.1.1.1.1.2⟩⟩⟩⟩⟩⟩⟩⟩)), (by (with_reducible repeat (first | apply Kd.N_alloc | apply Kd.N_drewN | apply Kd.N_drew)); exact Kd.N_mono HO721.out (fun _ hk => ⟨hk.1.1.1.1.1.1, ⟨hk.1.1.1.2, ⟨hk.1.1.2, ⟨hk.1.2, ⟨hk.2, ⟨hk.1.1.1.1.1.2.1, ⟨hk.1.1.1.1.1.2.2, hk.1.1.1.1.2⟩⟩⟩⟩⟩⟩⟩)), (by (with_reducible repeat (first | apply Kd.N_alloc | apply Kd.N_drewN | apply Kd.N_drew)); exact Kd.N_mono HO726.out (fun _ hk => ⟨hk.1, ⟨hk.2.2.2.2.1, ⟨hk.2.1, ⟨hk.2.2.1, ⟨hk.2.2.2.1, ⟨hk.2.2.2.2.2.1, ⟨hk.2.2.2.2.2.2.1, hk.2.2.2.2.2.2.2⟩⟩⟩⟩⟩⟩⟩)), (uR HO729.out), (uR HO733.out), (uR HO736.out), (uB BK716.out), (uB BK717.out), (uB BK738.out), GW738.out, GE738.out, NB716_738.out, NB738_716.out, NB717_738.out, NB738_717.out, (uH HB.out)⟩)
    ·skip
     refine box_step ?hg (N := 7) ?hd (cs := #[.slice none 0 0, .slice none 0 0, .int .i64 0, .slice none 0 0, .slice none 0 0]) (t := 95) ?hr ?_; (case hd => rfl); (case hg => rfl); (case hr => first | (go_simp; done) | (go_simp; rfl))
     intro gb738 hg w60 hbox hb
     replace HO1 := zA (Kd.V_below (Kd.V_elderB (by (with_reducible repeat (first | apply Kd.V_alloc | apply Kd.V_drewN | apply Kd.V_drew)); exact HO1.out) gb738 (Nat.le_of_eq hg.symm)) hb)
     replace HO721 := zA (Kd.N_below (Kd.N_elderB (by (with_reducible repeat (first | apply Kd.N_alloc | apply Kd.N_drewN | apply Kd.N_drew)); exact HO721.out) gb738 (Nat.le_of_eq hg.symm)) hb)
     have BK738 := zA (hbox)
     have GW738 := gq HB hg
     have GE738 := gq HB hg
     replace HB := xH HB hb
     have NB716_738 := zA ((by rw [hg]; exact neL BK716 : gb716 ≠ gb738))
     have NB738_716 := zA ((by rw [hg]; exact neG BK716 : gb738 ≠ gb716))
     replace BK716 := xB BK716 hb
     have NB717_738 := zA ((by rw [hg]; exact neL BK717 : gb717 ≠ gb738))
     have NB738_717 := zA ((by rw [hg]; exact neG BK717 : gb738 ≠ gb717))
     replace BK717 := xB BK717 hb
     have := geI GE738
     clear hb hbox hg
     refine hK.out _ _ ⟨bcu BK716 0, bcu BK716 1, bcu BK717 0⟩ (fun hHeld => ?_)
     clear hK K
     refine no_ 7 ?_
     refine on_ 2 (some 23) (bl 10 135) HT_ (fun K hK => ?_)
     refine gS Try.func104 #[.slice A1 l1.length c1] ?_
     with_reducible refine (impl_degree.calls _ _ l1 t723 _ ?side1 ?side2 A17.out).mono ?_
     (case side1 => exact uC ((Kd.V_reads' HO1.out).2.2))
     (case side2 => exact (Kd.V_reads' HO1.out).2.1)
     rintro e w' ⟨rfl, ⟨nd, rfl⟩⟩
     refine ⟨_, rfl, ?_⟩
     refine hK.out _ _ ⟨bcu BK716 0, bcu BK716 1, bcu BK717 0⟩ (fun hHeld => ?_)
     clear hK K
     refine no_ 23 ?_
     refine on_ 3 (some 24) (bl 10 143) HT_ (fun K hK => ?_)
     refine gS Try.func88 #[.agg #[.int .i64 a0_0, .slice A0_1 l0_1.length c0_1], .int .i64 t723] ?_
     with_reducible refine (impl_Moments_upTo.calls k a0_0 _ _ l0_1 t723 t724 t727 t730 t731 t734 false _ ?side1 ?side2 A18.out).mono ?_
     (case side1 => repeat (first | exact (Kd.C_below HR0_1.out (uH HB.out)) | (with_reducible refine Kd.C_alloc ?_ _) | (with_reducible refine Kd.C_drewN ?_ _) | (with_reducible refine Kd.C_drew ?_)))
     (case side2 => exact HC0_1.out)
     rintro e w61 ⟨v725, v728, v732, v735, rfl, ho0, ho1, ho2, ho3, hb⟩
     refine ⟨_, rfl, ?_⟩
     replace HO1 := zA (Kd.V_mono (Kd.V_told (Kd.V_told (Kd.V_told (Kd.V_told (Kd.V_old (by (with_reducible repeat (first | apply Kd.V_alloc | apply Kd.V_drewN | apply Kd.V_drew)); exact HO1.out) hb) (Kd.N_base ho0)) (Kd.R_base ho1)) (Kd.R_base ho2)) (Kd.R_base ho3)) (fun _ h_ => h_.1))
     have HO726 := zA (Kd.N_lower (Kd.N_mono (ok' := fun k_ => (P1_ k_ ∨ w.heap.size ≤ k_) ∧ some k_ ≠ (v728 : Value).ownBlock ∧ some k_ ≠ (v732 : Value).ownBlock ∧ some k_ ≠ (v735 : Value).ownBlock ∧ ax k_ (.slice Ao56 y719.length co56) ∧ k_ ≠ gb716 ∧ k_ ≠ gb717 ∧ k_ ≠ gb738) ho0 (fun k_ hk_ => ⟨(.inr (Nat.le_trans (below_size (uH HB.out)) hk_.1)), hk_.2.1, hk_.2.2.1, hk_.2.2.2, (Kd.fresh' (Kd.N_lt (by (with_reducible repeat (first | apply Kd.N_alloc | apply Kd.N_drewN | apply Kd.N_drew)); exact HO721.out)) k_ hk_.1), (Kd.freshB (g := gb716) (o := .cells #[.int .i64 a0_0, .slice A0_1 l0_1.length c0_1] 40 (0, 0)) (uB BK716.out) k_ hk_.1), (Kd.freshB (g := gb717) (o := .cells #[.slice A1 l1.length c1] 22 (0, 0)) (uB BK717.out) k_ hk_.1), (Kd.freshB (g := gb738) (o := .cells #[.slice none 0 0, .slice none 0 0, .int .i64 0, .slice none 0 0, .slice none 0 0] 95 (0, 0)) (uB BK738.out) k_ hk_.1)⟩)) (below_size (uH HB.out)))
     replace HO721 := zA (Kd.N_mono (Kd.N_told (Kd.N_told (Kd.N_told (Kd.N_told (Kd.N_old (by (with_reducible repeat (first | apply Kd.N_alloc | apply Kd.N_drewN | apply Kd.N_drew)); exact HO721.out) hb) (Kd.N_base ho0)) (Kd.R_base ho1)) (Kd.R_base ho2)) (Kd.R_base ho3)) (fun _ h_ => h_.1))
     have HO729 := zA (Kd.R_lower (Kd.R_newM (M := fun k_ => (w.heap.size ≤ k_)) (Kd.R_mono (ok' := fun k_ => some k_ ≠ (v732 : Value).ownBlock ∧ some k_ ≠ (v735 : Value).ownBlock) ho1 (fun _ hk_ => hk_.2)) (below_size (uH HB.out)) (fun k_ h_ => h_)) (below_size (uH HB.out)))
     have HO733 := zA (Kd.R_lower (Kd.R_newM (M := fun k_ => (w.heap.size ≤ k_)) (Kd.R_mono (ok' := fun k_ => some k_ ≠ (v728 : Value).ownBlock ∧ some k_ ≠ (v735 : Value).ownBlock) ho2 (fun _ hk_ => hk_.2)) (below_size (uH HB.out)) (fun k_ h_ => h_)) (below_size (uH HB.out)))
     have HO736 := zA (Kd.R_lower (Kd.R_newM (M := fun k_ => (w.heap.size ≤ k_)) (Kd.R_mono (ok' := fun k_ => some k_ ≠ (v728 : Value).ownBlock ∧ some k_ ≠ (v732 : Value).ownBlock) ho3 (fun _ hk_ => hk_.2)) (below_size (uH HB.out)) (fun k_ h_ => h_)) (below_size (uH HB.out)))
     replace BK716 := xB BK716 hb
     replace BK717 := xB BK717 hb
     replace BK738 := xB BK738 hb
     replace HB := xH HB hb
     (try clear hb); (try clear hb2); (try clear hk); (try clear hi); (try clear ho0); (try clear ho1); (try clear ho2); (try clear ho3)
     refine hK.out _ _ ⟨bcu BK716 0, bcu BK716 1, bcu BK717 0⟩ (fun hHeld => ?_)
     clear hK K
     refine no_ 24 ?_
     refine pu_ 4 20 (bl 10 159) HT_ ?_
     refine pu_ 5 25 (bl 10 191) HT_ ?_
     refine pu_ 6 26 (bl 10 255) HT_ ?_
     exact norm_ (by simp only [putAll, Act.put, ls, lz, ln]) (hCont (v725, v728, v732, v735, gb738) _ ⟨hHeld, (by (with_reducible repeat (first | apply Kd.V_alloc | apply Kd.V_drewN | apply Kd.V_drew)); exact Kd.V_mono HO1.out (fun _ hk => ⟨hk.1.1.1.1.1.1.1.1, ⟨hk.1.1.1.1.1.2, ⟨hk.1.1.1.2, ⟨hk.1.1.2, ⟨hk.1.2, ⟨hk.2, ⟨hk.1.1.1.1.1.1.1.2, ⟨hk.1.1.1.1.1.1.2, hk.1.1.1.1.2⟩⟩⟩⟩⟩⟩⟩⟩)), (by (with_reducible repeat (first | apply Kd.N_alloc | apply Kd.N_drewN | apply Kd.N_drew)); exact Kd.N_mono HO721.out (fun _ hk => ⟨hk.1.1.1.1.1.1, ⟨hk.1.1.1.2, ⟨hk.1.1.2, ⟨hk.1.2, ⟨hk.2, ⟨hk.1.1.1.1.1.2.1, ⟨hk.1.1.1.1.1.2.2, hk.1.1.1.1.2⟩⟩⟩⟩⟩⟩⟩)), (by (with_reducible repeat (first | apply Kd.N_alloc | apply Kd.N_drewN | apply Kd.N_drew)); exact Kd.N_mono HO726.out (fun _ hk => ⟨hk.1, ⟨hk.2.2.2.2.1, ⟨hk.2.1, ⟨hk.2.2.1, ⟨hk.2.2.2.1, ⟨hk.2.2.2.2.2.1, ⟨hk.2.2.2.2.2.2.1, hk.2.2.2.2.2.2.2⟩⟩⟩⟩⟩⟩⟩)), (uR HO729.out), (uR HO733.out), (uR HO736.out), (uB BK716.out), (uB BK717.out), (uB BK738.out), GW738.out, GE738.out, NB716_738.out, NB738_716.out, NB717_738.out, NB738_717.out, (uH HB.out)⟩)
   rintro ⟨v725, v728, v732, v735, gb738⟩ w62 ⟨hS_, h0_, h1_, h2_, h3_, h4_, h5_, h6_, h7_, h8_, h9_, h10_, h11_, h12_, h13_, h14_, h15_⟩
   have n0_ : Aside0 (Kd.V (Kd.int .i64) 2 w62 w.heap.size (fun k_ => (P1_ k_ ∨ w.heap.size ≤ k_) ∧ ax k_ (.slice Ao56 y719.length co56) ∧ some k_ ≠ (v725 : Value).ownBlock ∧ some k_ ≠ (v728 : Value).ownBlock ∧ some k_ ≠ (v732 : Value).ownBlock ∧ some k_ ≠ (v735 : Value).ownBlock ∧ k_ ≠ gb716 ∧ k_ ≠ gb717 ∧ k_ ≠ gb738) (.slice A1 l1.length c1) l1) := ⟨h0_⟩
   have n1_ : Aside0 (Kd.N (Kd.slice 2 (Kd.int .i64)) 22 w62 w.heap.size (fun k_ => (P1_ k_ ∨ w.heap.size ≤ k_) ∧ some k_ ≠ (v725 : Value).ownBlock ∧ some k_ ≠ (v728 : Value).ownBlock ∧ some k_ ≠ (v732 : Value).ownBlock ∧ some k_ ≠ (v735 : Value).ownBlock ∧ k_ ≠ gb716 ∧ k_ ≠ gb717 ∧ k_ ≠ gb738) (.slice Ao56 y719.length co56) y719) := ⟨h1_⟩
   have n2_ : Aside0 (Kd.N (Kd.slice 2 (Kd.int .i64)) 22 w62 w.heap.size (fun k_ => (P1_ k_ ∨ w.heap.size ≤ k_) ∧ ax k_ (.slice Ao56 y719.length co56) ∧ some k_ ≠ (v728 : Value).ownBlock ∧ some k_ ≠ (v732 : Value).ownBlock ∧ some k_ ≠ (v735 : Value).ownBlock ∧ k_ ≠ gb716 ∧ k_ ≠ gb717 ∧ k_ ≠ gb738) v725 t724) := ⟨h2_⟩
   have n3_ : Aside0 (Kd.R (Kd.int .i64) 2 w62 w.heap.size (fun k_ => (w.heap.size ≤ k_) ∧ some k_ ≠ (v732 : Value).ownBlock ∧ some k_ ≠ (v735 : Value).ownBlock) v728 t727) := ⟨h3_⟩
   have n4_ : Aside0 (Kd.R (Kd.int .i64) 2 w62 w.heap.size (fun k_ => (w.heap.size ≤ k_) ∧ some k_ ≠ (v728 : Value).ownBlock ∧ some k_ ≠ (v735 : Value).ownBlock) v732 t731) := ⟨h4_⟩
   have n5_ : Aside0 (Kd.R (Kd.int .i64) 2 w62 w.heap.size (fun k_ => (w.heap.size ≤ k_) ∧ some k_ ≠ (v728 : Value).ownBlock ∧ some k_ ≠ (v732 : Value).ownBlock) v735 t734) := ⟨h5_⟩
   have n6_ : Aside0 (w62.heap[gb716]? = some (.cells #[.int .i64 a0_0, .slice A0_1 l0_1.length c0_1] 40 (0, 0))) := ⟨h6_⟩
   have n7_ : Aside0 (w62.heap[gb717]? = some (.cells #[.slice A1 l1.length c1] 22 (0, 0))) := ⟨h7_⟩
   have n8_ : Aside0 (w62.heap[gb738]? = some (.cells #[.slice none 0 0, .slice none 0 0, .int .i64 0, .slice none 0 0, .slice none 0 0] 95 (0, 0))) := ⟨h8_⟩
   have n9_ : Aside0 (w.heap.size ≤ gb738) := ⟨h9_⟩
   have n10_ : Aside0 (w.heap.size ≤ gb738) := ⟨h10_⟩
   have n11_ : Aside0 (gb716 ≠ gb738) := ⟨h11_⟩
   have n12_ : Aside0 (gb738 ≠ gb716) := ⟨h12_⟩
   have n13_ : Aside0 (gb717 ≠ gb738) := ⟨h13_⟩
   have n14_ : Aside0 (gb738 ≠ gb717) := ⟨h14_⟩
   have n15_ : Aside0 (Below w.heap.size w w62) := ⟨h15_⟩
   clear HO1 HO721 BK716 BK717 HB
   clear h0_ h1_ h2_ h3_ h4_ h5_ h6_ h7_ h8_ h9_ h10_ h11_ h12_ h13_ h14_ h15_
   have HO1 := n0_
   have HO721 := n1_
   have HO726 := n2_
   have HO729 := n3_
   have HO733 := n4_
   have HO736 := n5_
   have BK716 := n6_
   have BK717 := n7_
   have BK738 := n8_
   have GW738 := n9_
   have GE738 := n10_
   have := geI GE738
   have NB716_738 := n11_
   have NB738_716 := n12_
   have NB717_738 := n13_
   have NB738_717 := n14_
   have HB := n15_
   clear n0_ n1_ n2_ n3_ n4_ n5_ n6_ n7_ n8_ n9_ n10_ n11_ n12_ n13_ n14_ n15_
   have hHeld : w62.cell? ⟨gb716, 0, none⟩ = some (.int .i64 a0_0) ∧ w62.cell? ⟨gb716, 1, none⟩ = some (.slice A0_1 l0_1.length c0_1) ∧ w62.cell? ⟨gb717, 0, none⟩ = some (.slice A1 l1.length c1) := hS_
   obtain ⟨Ao63, co63, eo63⟩ := Kd.N_slice HO726.out
   (first | subst eo63 | (injection eo63 with f1_ f2_ f3_; have f4_ := f1_.symm; have f5_ := f3_.symm; clear f1_ f2_ f3_; subst f4_; subst f5_))
   obtain ⟨Ao65, co65, eo65⟩ := Kd.R_slice HO729.out
   (first | subst eo65 | (injection eo65 with f1_ f2_ f3_; have f4_ := f1_.symm; have f5_ := f3_.symm; clear f1_ f2_ f3_; subst f4_; subst f5_))
   obtain ⟨Ao68, co68, eo68⟩ := Kd.R_slice HO733.out
   (first | subst eo68 | (injection eo68 with f1_ f2_ f3_; have f4_ := f1_.symm; have f5_ := f3_.symm; clear f1_ f2_ f3_; subst f4_; subst f5_))
   obtain ⟨Ao70, co70, eo70⟩ := Kd.R_slice HO736.out
   (first | subst eo70 | (injection eo70 with f1_ f2_ f3_; have f4_ := f1_.symm; have f5_ := f3_.symm; clear f1_ f2_ f3_; subst f4_; subst f5_))
   refine norm_ (a' := ?_) ?_ ?_
   rotate_left
   ·simp only [putAll, Act.put, ls, lz, ln]
    rfl
   refine on_ 8 (none) (bl 10 511) HT_ (fun K hK => ?_)
   have hs64 : w62.cell? ⟨gb738, 0, none⟩ = some (.slice none 0 0) := (blk_cell BK738.out 0).trans rfl
   have hfs64 := bf BK738 0
   have hns64_0 := NB716_738.out; have hns64_1 := NB717_738.out; have hms64_0 := NB738_716.out; have hms64_1 := NB738_717.out
   have hs66 : w62.cell? ⟨gb738, 1, none⟩ = some (.slice none 0 0) := (blk_cell BK738.out 1).trans rfl
   have hfs66 := bf BK738 1
   have hns66_0 := NB716_738.out; have hns66_1 := NB717_738.out; have hms66_0 := NB738_716.out; have hms66_1 := NB738_717.out
   have hs67 : w62.cell? ⟨gb738, 2, none⟩ = some (.int .i64 0) := (blk_cell BK738.out 2).trans rfl
   have hfs67 := bf BK738 2
   have hns67_0 := NB716_738.out; have hns67_1 := NB717_738.out; have hms67_0 := NB738_716.out; have hms67_1 := NB738_717.out
   have hs69 : w62.cell? ⟨gb738, 3, none⟩ = some (.slice none 0 0) := (blk_cell BK738.out 3).trans rfl
   have hfs69 := bf BK738 3
   have hns69_0 := NB716_738.out; have hns69_1 := NB717_738.out; have hms69_0 := NB738_716.out; have hms69_1 := NB738_717.out
   have hs71 : w62.cell? ⟨gb738, 4, none⟩ = some (.slice none 0 0) := (blk_cell BK738.out 4).trans rfl
   have hfs71 := bf BK738 4
   have hns71_0 := NB716_738.out; have hns71_1 := NB717_738.out; have hms71_0 := NB738_716.out; have hms71_1 := NB738_717.out
   refine skip_ (w1 := ?_) (by rfl) rfl ?_ ?_
   rotate_left
   ·go_simp
    rfl
   refine hK.out _ _ ⟨((cell_far (p := ⟨gb738, _, none⟩) NB716_738.out _).trans (((cell_far (p := ⟨gb738, _, none⟩) NB716_738.out _).trans (((cell_far (p := ⟨gb738, _, none⟩) NB716_738.out _).trans (((cell_far (p := ⟨gb738, _, none⟩) NB716_738.out _).trans (((cell_far (p := ⟨gb738, _, none⟩) NB716_738.out _).trans (hHeld.1)))))))))), ((cell_far (p := ⟨gb738, _, none⟩) NB716_738.out _).trans (((cell_far (p := ⟨gb738, _, none⟩) NB716_738.out _).trans (((cell_far (p := ⟨gb738, _, none⟩) NB716_738.out _).trans (((cell_far (p := ⟨gb738, _, none⟩) NB716_738.out _).trans (((cell_far (p := ⟨gb738, _, none⟩) NB716_738.out _).trans (hHeld.2.1)))))))))), ((cell_far (p := ⟨gb738, _, none⟩) NB717_738.out _).trans (((cell_far (p := ⟨gb738, _, none⟩) NB717_738.out _).trans (((cell_far (p := ⟨gb738, _, none⟩) NB717_738.out _).trans (((cell_far (p := ⟨gb738, _, none⟩) NB717_738.out _).trans (((cell_far (p := ⟨gb738, _, none⟩) NB717_738.out _).trans (hHeld.2.2))))))))))⟩ (fun hHeld => ?_)
   clear hK K
   refine pu_ 9 8 (bl 10 1023) HT_ ?_
   refine done_ (done_of HT_.out (by kernel_rfl)) ?_
   try go_wp2
   go_ret2
   exact ⟨_, by first | rfl | (simp [errW_none, errW_some] <;> rfl) | (simp [*, errW_none, errW_some] <;> rfl), by first | exact Kd.R_nil _ _ _ _ _ | exact Kd.N_nil _ _ _ _ _ | exact Kd.V_nil _ _ _ _ _ | exact Kd.Q_nil _ _ _ _ _ | exact Kd.S_nil _ _ _ _ _, uH HB.out⟩
 rw [if_pos c6] at H
 have c6b0 : ((l1.length : Int) == 0) = true := beq_iff_eq.mpr c6
 have c6b1 : ((l1.length : Int) != 0) = false := bne_eq_false_iff_eq.mpr c6
 clear c6
 simp only [Option.some.injEq, Prod.mk.injEq] at H
 obtain ⟨rfl, rfl⟩ := H
 go_enter Try.func46, Try.ntmps46
 go_wp2_with (first | ((with_reducible refine gate_dst (N := 2) rfl ?_); refine bx 2 #[.int .i64 a0_0, .slice A0_1 l0_1.length c0_1] 40 ?_; intro gb716 hg w7 hbox hb; replace HO1 := zA (Kd.V_below (Kd.V_elderB (by (with_reducible repeat (first | apply Kd.V_alloc | apply Kd.V_drewN | apply Kd.V_drew)); exact HO1.out) gb716 (Nat.le_of_eq hg.symm)) hb); have BK716 := zA (hbox); have GW716 := gq HB hg; have GE716 := gq HB hg; replace HB := xH HB hb; have := geI GE716; clear hb hbox hg) | ((with_reducible refine gate_dst (N := 3) rfl ?_); refine bx 3 #[.slice A1 l1.length c1] 22 ?_; intro gb717 hg w8 hbox hb; replace HO1 := zA (Kd.V_below (Kd.V_elderB (by (with_reducible repeat (first | apply Kd.V_alloc | apply Kd.V_drewN | apply Kd.V_drew)); exact HO1.out) gb717 (Nat.le_of_eq hg.symm)) hb); have BK717 := zA (hbox); have GW717 := gq HB hg; have GE717 := gq HB hg; replace HB := xH HB hb; have NB716_717 := zA ((by rw [hg]; exact neL BK716 : gb716 ≠ gb717)); have NB717_716 := zA ((by rw [hg]; exact neG BK716 : gb717 ≠ gb716)); replace BK716 := xB BK716 hb; have := geI GE717; clear hb hbox hg; have hnb9 := NB716_717.out; have hnc9 := NB717_716.out; have hcz10_0 := bc BK716 0; have hcz10_1 := bc BK716 1; have hfz10_0 := bf BK716 0; have hfz10_1 := bf BK716 1; have hcz11_0 := bc BK717 0; have hfz11_0 := bf BK717 0) | ((with_reducible refine gate_dst (N := 12) rfl ?_); refine Kd.N_lit (Kd.slice 2 (Kd.int .i64)) _ 22 ?hg (N' := 12) ?hd (xs := ([l1] : List (List Int))) (inner := [.slice A1 l1.length c1]) (ok := (fun k_ => (P1_ k_ ∨ w.heap.size ≤ k_) ∧ k_ ≠ gb716 ∧ k_ ≠ gb717)) (okp := (fun k_ => (P1_ k_ ∨ w.heap.size ≤ k_) ∧ k_ ≠ gb716 ∧ k_ ≠ gb717)) ?hr ?hp (fun _ hk => hk) ((show ∀ k_, w8.heap.size ≤ k_ → (fun k_ => (P1_ k_ ∨ w.heap.size ≤ k_) ∧ k_ ≠ gb716 ∧ k_ ≠ gb717) k_ from fun k_ hk => ⟨(.inr (Nat.le_trans (below_size (uH HB.out)) hk)), Kd.freshB (g := gb716) (o := .cells #[.int .i64 a0_0, .slice A0_1 l0_1.length c0_1] 40 (0, 0)) (uB BK716.out) k_ hk, Kd.freshB (g := gb717) (o := .cells #[.slice A1 l1.length c1] 22 (0, 0)) (uB BK717.out) k_ hk⟩) _ (Nat.le_refl _)) (Below.refl _ _) (Nat.le_refl _) (by simp) ?_; (case hd => rfl); (case hg => rfl); (case hr => first | (go_simp; done) | (go_simp; rfl)); (case hp => exact (Reps.one (show Kd.FK (Kd.slice 2 (Kd.int .i64)) _ _ l1 [.slice A1 l1.length c1] from (Kd.FK_slice_mk (Kd.V_reads' (Kd.V_mono (ok' := (fun k_ => (P1_ k_ ∨ w.heap.size ≤ k_) ∧ k_ ≠ gb716 ∧ k_ ≠ gb717)) (HO1.out) (fun k_ hk => ⟨hk.1.1, ⟨hk.1.2, hk.2⟩⟩))).2.1 (Kd.V_F (Kd.V_mono (ok' := (fun k_ => (P1_ k_ ∨ w.heap.size ≤ k_) ∧ k_ ≠ gb716 ∧ k_ ≠ gb717)) (HO1.out) (fun k_ hk => ⟨hk.1.1, ⟨hk.1.2, hk.2⟩⟩))))) (Reps.none _ _))); intro v720 w12 ho13 hb hg_ hnew_; clear hg_ hnew_; (first | rw [← Ny719.out] at ho13 | (simp only [Int.reduceToNat] at ho13; rw [← Ny719.out] at ho13)); replace HO1 := zA (Kd.V_elder' (by (with_reducible repeat (first | apply Kd.V_alloc | apply Kd.V_drewN | apply Kd.V_drew)); exact HO1.out) (Kd.N_base ho13) hb); have HO721 := zA (Kd.N_lower ho13 (below_size (uH HB.out))); replace BK716 := xB BK716 hb; replace BK717 := xB BK717 hb; replace HB := xH HB hb; clear hb ho13; obtain ⟨Ao14, co14, eo14⟩ := Kd.N_slice HO721.out; subst eo14) | ((with_reducible refine gate_callee (f := 68) rfl ?_); refine gL (some 13) Try.func68 #[.agg #[.int .i64 a0_0, .slice A0_1 l0_1.length c0_1], (.func (.func 103) #[] #[.pointer (some ⟨gb717, 0, none⟩)]), .slice Ao14 y719.length co14] ?_; (with_reducible refine (impl_momentsCode.calls k a0_0 _ _ l0_1 _ t718 _ _ y719 t722 _ ?side1 ?side2 ?side3 ?side4 ?side5 A4.out).mono ?_); (case side1 => exact uC ((Kd.C_below HR0_1.out HB.out))); (case side2 => exact HC0_1.out); (case side3 => exact FnB.of Try.func103 (by kernel_rfl) rfl (fun W_ hW_ => calls_of_args (args' := #[.pointer (some ⟨gb717, 0, none⟩)]) (by simp) ((impl_ExpandPolynomial_1.calls _ _ _ l1 _ W_ (blk_below (g := gb717) (o := .cells #[.slice A1 l1.length c1] 22 (0, 0)) (uB BK717.out) hW_) (Kd.C_below (by exact uC ((Kd.V_reads' HO1.out).2.2)) hW_) (by exact (Kd.V_reads' HO1.out).2.1) A3.out).mono fun e_ W2_ h_ => ⟨h_.1, h_.2.below⟩))); (case side4 => exact uC ((Kd.N_reads' HO721.out).2.2)); (case side5 => exact (Kd.N_reads' HO721.out).2.1); rintro e w15 ⟨rfl, hb⟩; refine ⟨_, rfl, ?_⟩; replace HO1 := zA (Kd.V_below (by (with_reducible repeat (first | apply Kd.V_alloc | apply Kd.V_drewN | apply Kd.V_drew)); exact HO1.out) hb); replace HO721 := zA (Kd.N_below (by (with_reducible repeat (first | apply Kd.N_alloc | apply Kd.N_drewN | apply Kd.N_drew)); exact HO721.out) hb); replace BK716 := xB BK716 hb; replace BK717 := xB BK717 hb; replace HB := xH HB hb; (try clear hb); (try clear hb2); (try clear hk); (try clear hi); have hcz16_0 := bc BK717 0; have hfz16_0 := bf BK717 0))
 go_ret2
 exact ⟨_, by first | rfl | (simp [errW_none, errW_some] <;> rfl) | (simp [*, errW_none, errW_some] <;> rfl), by first | exact Kd.R_nil _ _ _ _ _ | exact Kd.N_nil _ _ _ _ _ | exact Kd.V_nil _ _ _ _ _ | exact Kd.Q_nil _ _ _ _ _ | exact Kd.S_nil _ _ _ _ _, uH HB.out⟩
end Go.Proofs.Ytfbnkebgdmfcfaa.Pr
