/- Texts of this session in one: what functions of the program compute, and plain facts of it, under the conditions that each theorem names. -/
import Derived.Test.YtnpepkpogohcmaaKionals1
import Derived.Test.YtnpepkpogohcmaaKionals2
import Derived.Test.YtnpepkpogohcmaaKionals3
import Derived.Test.YtnpepkpogohcmaaKionals7
import Derived.Test.YtnpepkpogohcmaaKionals8
namespace Go.Proofs.Ytnpepkpogohcmaa.Pr
open Go.RowKit Go.Proofs.YtnpepkpogohcmaaW.PrintWords Go.Proofs.YtnpepkpogohcmaaW.PrintLast Go.Proofs.YtnpepkpogohcmaaW.PrintMore
attribute [local go_sem] max2_int min2_int max_two min_two max_three min_three max_four min_four   -- for this text's walks alone
set_option linter.unusedVariables false
set_option linter.unusedSimpArgs false
/-! ### impl_ApplyFunctional: function 7 -/
def impl_ApplyFunctional.f (k : Nat) (a0_0 : Int) (l0_1 : List Int) (l1 : List Int) : Option (Int × Int) := (impl_ApplyFunctional_1.f a0_0 l0_1 l1).bind fun t463 => ((impl_momentsCode.f k a0_0 l0_1 t463 (([l1] : List (List Int)))).bind fun t467 => (if t467 = 0 then ((impl_Moments_apply.f k a0_0 l0_1 l1).bind fun t468 => (some (t468, 0))) else (some (0, t467))))
set_option maxHeartbeats 8000000 in
set_option maxRecDepth 100000 in
theorem impl_ApplyFunctional.calls (k : Nat) (a0_0 : Int) (A0_1 : Option Addr) (c0_1 : Nat) (l0_1 : List Int) (P1_ : Nat → Prop) (A1 : Option Addr) (c1 : Nat) (l1 : List Int) (r1 : Int) (r2 : Int) (w : World) (hr0_1 : Kd.C (Kd.int .i64) w A0_1 l0_1.length l0_1) (hc0_1 : l0_1.length ≤ c0_1) (hs1 : Kd.V (Kd.int .i64) 2 w w.heap.size (fun k_ => P1_ k_) (.slice A1 l1.length c1) l1) (h : impl_ApplyFunctional.f k a0_0 l0_1 l1 = some (r1, r2)) :
  Calls Try.prog 7 #[.agg #[.int .i64 a0_0, .slice A0_1 l0_1.length c0_1], .slice A1 l1.length c1] w fun e w' => e = .returned (.tuple #[.int .i64 r1, .int .i64 r2]) ∧ Below w.heap.size w w' := by
 have hu26 := Try.underlying26
 have hmf : ∀ (fn_ : Fn) (first_ cap_ : Array Value) (w_ : World), (Instr.makeFunc fn_ first_ cap_).run Try.prog w_ = .ok (.func fn_ first_ cap_) w_ := fun _ _ _ _ => rfl
 have HR0_1 := zA hr0_1
 have HC0_1 := zA hc0_1
 clear hr0_1 hc0_1
 have HO1 := zA (show Kd.V (Kd.int .i64) 2 w w.heap.size (fun k_ => (P1_ k_ ∨ w.heap.size ≤ k_)) (.slice A1 l1.length c1) l1 from Kd.V_mono hs1 (fun k_ hk => .inl hk))
 have HB := zA (Below.refl w.heap.size w)
 have H : ((impl_ApplyFunctional_1.f a0_0 l0_1 l1).bind fun t463 => ((impl_momentsCode.f k a0_0 l0_1 t463 (([l1] : List (List Int)))).bind fun t467 => (if t467 = 0 then ((impl_Moments_apply.f k a0_0 l0_1 l1).bind fun t468 => (some (t468, 0))) else (some (0, t467))))) = some (r1, r2) := h
 clear h
 replace H := Option.bind_eq_some_iff.mp H
 obtain ⟨t463, A30, H⟩ := H
 replace H : ((impl_momentsCode.f k a0_0 l0_1 t463 (([l1] : List (List Int)))).bind fun t467 => (if t467 = 0 then ((impl_Moments_apply.f k a0_0 l0_1 l1).bind fun t468 => (some (t468, 0))) else (some (0, t467)))) = some (r1, r2) := H
 have A3 := zA A30
 clear A30
 obtain ⟨y464, hy464⟩ : ∃ y_ : List (List Int), y_ = (([l1] : List (List Int))) := ⟨_, rfl⟩
 replace H : ((impl_momentsCode.f k a0_0 l0_1 t463 y464).bind fun t467 => (if t467 = 0 then ((impl_Moments_apply.f k a0_0 l0_1 l1).bind fun t468 => (some (t468, 0))) else (some (0, t467)))) = some (r1, r2) := by first | (rw [hy464]; exact H) | exact H
 have Ny464 := zA hy464
 clear hy464
 replace H := Option.bind_eq_some_iff.mp H
 obtain ⟨t467, A40, H⟩ := H
 replace H : (if t467 = 0 then ((impl_Moments_apply.f k a0_0 l0_1 l1).bind fun t468 => (some (t468, 0))) else (some (0, t467))) = some (r1, r2) := H
 have A4 := zA A40
 clear A40
 by_cases c5 : t467 = 0
 rotate_left
 ·rw [if_neg c5] at H
  have c5b0 : (t467 == 0) = false := beq_eq_false_iff_ne.mpr c5
  have c5b1 : (t467 != 0) = true := bne_iff_ne.mpr c5
  simp only [Option.some.injEq, Prod.mk.injEq] at H
  obtain ⟨rfl, rfl⟩ := H
  go_enter Try.func7, Try.ntmps7
  go_wp2_with (first | ((with_reducible refine gate_dst (N := 2) rfl ?_); refine bx 2 #[.int .i64 a0_0, .slice A0_1 l0_1.length c0_1] 26 ?_; intro gb461 hg w19 hbox hb; replace HO1 := zA (Kd.V_below (Kd.V_elderB (by (with_reducible repeat (first | apply Kd.V_alloc | apply Kd.V_drewN | apply Kd.V_drew)); exact HO1.out) gb461 (Nat.le_of_eq hg.symm)) hb); have BK461 := zA (hbox); have GW461 := gq HB hg; have GE461 := gq HB hg; replace HB := xH HB hb; have := geI GE461; clear hb hbox hg) | ((with_reducible refine gate_dst (N := 3) rfl ?_); refine bx 3 #[.slice A1 l1.length c1] 24 ?_; intro gb462 hg w20 hbox hb; replace HO1 := zA (Kd.V_below (Kd.V_elderB (by (with_reducible repeat (first | apply Kd.V_alloc | apply Kd.V_drewN | apply Kd.V_drew)); exact HO1.out) gb462 (Nat.le_of_eq hg.symm)) hb); have BK462 := zA (hbox); have GW462 := gq HB hg; have GE462 := gq HB hg; replace HB := xH HB hb; have NB461_462 := zA ((by rw [hg]; exact neL BK461 : gb461 ≠ gb462)); have NB462_461 := zA ((by rw [hg]; exact neG BK461 : gb462 ≠ gb461)); replace BK461 := xB BK461 hb; have := geI GE462; clear hb hbox hg; have hnb21 := NB461_462.out; have hnc21 := NB462_461.out; have hcz22_0 := bc BK461 0; have hcz22_1 := bc BK461 1; have hfz22_0 := bf BK461 0; have hfz22_1 := bf BK461 1; have hcz23_0 := bc BK462 0; have hfz23_0 := bf BK462 0) | ((with_reducible refine gate_dst (N := 10) rfl ?_); refine Kd.N_lit (Kd.slice 2 (Kd.int .i64)) _ 24 ?hg (N' := 10) ?hd (xs := ([l1] : List (List Int))) (inner := [.slice A1 l1.length c1]) (ok := (fun k_ => (P1_ k_ ∨ w.heap.size ≤ k_) ∧ k_ ≠ gb461 ∧ k_ ≠ gb462)) (okp := (fun k_ => (P1_ k_ ∨ w.heap.size ≤ k_) ∧ k_ ≠ gb461 ∧ k_ ≠ gb462)) ?hr ?hp (fun _ hk => hk) ((show ∀ k_, w20.heap.size ≤ k_ → (fun k_ => (P1_ k_ ∨ w.heap.size ≤ k_) ∧ k_ ≠ gb461 ∧ k_ ≠ gb462) k_ from fun k_ hk => ⟨(.inr (Nat.le_trans (below_size (uH HB.out)) hk)), Kd.freshB (g := gb461) (o := .cells #[.int .i64 a0_0, .slice A0_1 l0_1.length c0_1] 26 (0, 0)) (uB BK461.out) k_ hk, Kd.freshB (g := gb462) (o := .cells #[.slice A1 l1.length c1] 24 (0, 0)) (uB BK462.out) k_ hk⟩) _ (Nat.le_refl _)) (Below.refl _ _) (Nat.le_refl _) (by simp) ?_; (case hd => rfl); (case hg => rfl); (case hr => first | (go_simp; done) | (go_simp; rfl)); (case hp => exact (Reps.one (show Kd.FK (Kd.slice 2 (Kd.int .i64)) _ _ l1 [.slice A1 l1.length c1] from (Kd.FK_slice_mk (Kd.V_reads' (Kd.V_mono (ok' := (fun k_ => (P1_ k_ ∨ w.heap.size ≤ k_) ∧ k_ ≠ gb461 ∧ k_ ≠ gb462)) (HO1.out) (fun k_ hk => ⟨hk.1.1, ⟨hk.1.2, hk.2⟩⟩))).2.1 (Kd.V_F (Kd.V_mono (ok' := (fun k_ => (P1_ k_ ∨ w.heap.size ≤ k_) ∧ k_ ≠ gb461 ∧ k_ ≠ gb462)) (HO1.out) (fun k_ hk => ⟨hk.1.1, ⟨hk.1.2, hk.2⟩⟩))))) (Reps.none _ _))); intro v465 w24 ho25 hb hg_ hnew_; clear hg_ hnew_; (first | rw [← Ny464.out] at ho25 | (simp only [Int.reduceToNat] at ho25; rw [← Ny464.out] at ho25)); replace HO1 := zA (Kd.V_elder' (by (with_reducible repeat (first | apply Kd.V_alloc | apply Kd.V_drewN | apply Kd.V_drew)); exact HO1.out) (Kd.N_base ho25) hb); have HO466 := zA (Kd.N_lower ho25 (below_size (uH HB.out))); replace BK461 := xB BK461 hb; replace BK462 := xB BK462 hb; replace HB := xH HB hb; clear hb ho25; obtain ⟨Ao26, co26, eo26⟩ := Kd.N_slice HO466.out; subst eo26) | ((with_reducible refine gate_callee (f := 30) rfl ?_); refine gL (some 11) Try.func30 #[.agg #[.int .i64 a0_0, .slice A0_1 l0_1.length c0_1], (.func (.func 31) #[] #[.pointer (some ⟨gb461, 0, none⟩), .pointer (some ⟨gb462, 0, none⟩)]), .slice Ao26 y464.length co26] ?_; (with_reducible refine (impl_momentsCode.calls k a0_0 _ _ l0_1 _ t463 _ _ y464 t467 _ ?side1 ?side2 ?side3 ?side4 ?side5 A4.out).mono ?_); (case side1 => exact uC ((Kd.C_below HR0_1.out HB.out))); (case side2 => exact HC0_1.out); (case side3 => exact FnB.of Try.func31 (by kernel_rfl) rfl (fun W_ hW_ => calls_of_args (args' := #[.pointer (some ⟨gb461, 0, none⟩), .pointer (some ⟨gb462, 0, none⟩)]) (by simp) ((impl_ApplyFunctional_1.calls _ a0_0 _ _ l0_1 _ _ _ l1 _ W_ (blk_below (g := gb461) (o := .cells #[.int .i64 a0_0, .slice A0_1 l0_1.length c0_1] 26 (0, 0)) (uB BK461.out) hW_) (Kd.C_below (by exact uC ((Kd.C_below HR0_1.out HB.out))) hW_) (by exact HC0_1.out) (blk_below (g := gb462) (o := .cells #[.slice A1 l1.length c1] 24 (0, 0)) (uB BK462.out) hW_) (Kd.C_below (by exact uC ((Kd.V_reads' HO1.out).2.2)) hW_) (by exact (Kd.V_reads' HO1.out).2.1) A3.out).mono fun e_ W2_ h_ => ⟨h_.1, h_.2⟩))); (case side4 => exact uC ((Kd.N_reads' HO466.out).2.2)); (case side5 => exact (Kd.N_reads' HO466.out).2.1); rintro e w27 ⟨rfl, hb⟩; refine ⟨_, rfl, ?_⟩; replace HO1 := zA (Kd.V_below (by (with_reducible repeat (first | apply Kd.V_alloc | apply Kd.V_drewN | apply Kd.V_drew)); exact HO1.out) hb); replace HO466 := zA (Kd.N_below (by (with_reducible repeat (first | apply Kd.N_alloc | apply Kd.N_drewN | apply Kd.N_drew)); exact HO466.out) hb); replace BK461 := xB BK461 hb; replace BK462 := xB BK462 hb; replace HB := xH HB hb; (try clear hb); (try clear hb2); (try clear hk); (try clear hi)))
  go_ret2
  exact ⟨by first | rfl | (simp [errW_none, errW_some] <;> rfl) | (simp [*, errW_none, errW_some] <;> rfl), uH HB.out⟩

 rw [if_pos c5] at H
 have c5b0 : (t467 == 0) = true := beq_iff_eq.mpr c5
 have c5b1 : (t467 != 0) = false := bne_eq_false_iff_eq.mpr c5
 clear c5
 replace H := Option.bind_eq_some_iff.mp H
 obtain ⟨t468, A60, H⟩ := H
 replace H : (some (t468, 0)) = some (r1, r2) := H
 have A6 := zA A60
 clear A60
 simp only [Option.some.injEq, Prod.mk.injEq] at H
 obtain ⟨rfl, rfl⟩ := H
 go_enter Try.func7, Try.ntmps7
 go_wp2_with (first | ((with_reducible refine gate_dst (N := 2) rfl ?_); refine bx 2 #[.int .i64 a0_0, .slice A0_1 l0_1.length c0_1] 26 ?_; intro gb461 hg w7 hbox hb; replace HO1 := zA (Kd.V_below (Kd.V_elderB (by (with_reducible repeat (first | apply Kd.V_alloc | apply Kd.V_drewN | apply Kd.V_drew)); exact HO1.out) gb461 (Nat.le_of_eq hg.symm)) hb); have BK461 := zA (hbox); have GW461 := gq HB hg; have GE461 := gq HB hg; replace HB := xH HB hb; have := geI GE461; clear hb hbox hg) | ((with_reducible refine gate_dst (N := 3) rfl ?_); refine bx 3 #[.slice A1 l1.length c1] 24 ?_; intro gb462 hg w8 hbox hb; replace HO1 := zA (Kd.V_below (Kd.V_elderB (by (with_reducible repeat (first | apply Kd.V_alloc | apply Kd.V_drewN | apply Kd.V_drew)); exact HO1.out) gb462 (Nat.le_of_eq hg.symm)) hb); have BK462 := zA (hbox); have GW462 := gq HB hg; have GE462 := gq HB hg; replace HB := xH HB hb; have NB461_462 := zA ((by rw [hg]; exact neL BK461 : gb461 ≠ gb462)); have NB462_461 := zA ((by rw [hg]; exact neG BK461 : gb462 ≠ gb461)); replace BK461 := xB BK461 hb; have := geI GE462; clear hb hbox hg; have hnb9 := NB461_462.out; have hnc9 := NB462_461.out; have hcz10_0 := bc BK461 0; have hcz10_1 := bc BK461 1; have hfz10_0 := bf BK461 0; have hfz10_1 := bf BK461 1; have hcz11_0 := bc BK462 0; have hfz11_0 := bf BK462 0) | ((with_reducible refine gate_dst (N := 10) rfl ?_); refine Kd.N_lit (Kd.slice 2 (Kd.int .i64)) _ 24 ?hg (N' := 10) ?hd (xs := ([l1] : List (List Int))) (inner := [.slice A1 l1.length c1]) (ok := (fun k_ => (P1_ k_ ∨ w.heap.size ≤ k_) ∧ k_ ≠ gb461 ∧ k_ ≠ gb462)) (okp := (fun k_ => (P1_ k_ ∨ w.heap.size ≤ k_) ∧ k_ ≠ gb461 ∧ k_ ≠ gb462)) ?hr ?hp (fun _ hk => hk) ((show ∀ k_, w8.heap.size ≤ k_ → (fun k_ => (P1_ k_ ∨ w.heap.size ≤ k_) ∧ k_ ≠ gb461 ∧ k_ ≠ gb462) k_ from fun k_ hk => ⟨(.inr (Nat.le_trans (below_size (uH HB.out)) hk)), Kd.freshB (g := gb461) (o := .cells #[.int .i64 a0_0, .slice A0_1 l0_1.length c0_1] 26 (0, 0)) (uB BK461.out) k_ hk, Kd.freshB (g := gb462) (o := .cells #[.slice A1 l1.length c1] 24 (0, 0)) (uB BK462.out) k_ hk⟩) _ (Nat.le_refl _)) (Below.refl _ _) (Nat.le_refl _) (by simp) ?_; (case hd => rfl); (case hg => rfl); (case hr => first | (go_simp; done) | (go_simp; rfl)); (case hp => exact (Reps.one (show Kd.FK (Kd.slice 2 (Kd.int .i64)) _ _ l1 [.slice A1 l1.length c1] from (Kd.FK_slice_mk (Kd.V_reads' (Kd.V_mono (ok' := (fun k_ => (P1_ k_ ∨ w.heap.size ≤ k_) ∧ k_ ≠ gb461 ∧ k_ ≠ gb462)) (HO1.out) (fun k_ hk => ⟨hk.1.1, ⟨hk.1.2, hk.2⟩⟩))).2.1 (Kd.V_F (Kd.V_mono (ok' := (fun k_ => (P1_ k_ ∨ w.heap.size ≤ k_) ∧ k_ ≠ gb461 ∧ k_ ≠ gb462)) (HO1.out) (fun k_ hk => ⟨hk.1.1, ⟨hk.1.2, hk.2⟩⟩))))) (Reps.none _ _))); intro v465 w12 ho13 hb hg_ hnew_; clear hg_ hnew_; (first | rw [← Ny464.out] at ho13 | (simp only [Int.reduceToNat] at ho13; rw [← Ny464.out] at ho13)); replace HO1 := zA (Kd.V_elder' (by (with_reducible repeat (first | apply Kd.V_alloc | apply Kd.V_drewN | apply Kd.V_drew)); exact HO1.out) (Kd.N_base ho13) hb); have HO466 := zA (Kd.N_lower ho13 (below_size (uH HB.out))); replace BK461 := xB BK461 hb; replace BK462 := xB BK462 hb; replace HB := xH HB hb; clear hb ho13; obtain ⟨Ao14, co14, eo14⟩ := Kd.N_slice HO466.out; subst eo14) | ((with_reducible refine gate_callee (f := 30) rfl ?_); refine gL (some 11) Try.func30 #[.agg #[.int .i64 a0_0, .slice A0_1 l0_1.length c0_1], (.func (.func 31) #[] #[.pointer (some ⟨gb461, 0, none⟩), .pointer (some ⟨gb462, 0, none⟩)]), .slice Ao14 y464.length co14] ?_; (with_reducible refine (impl_momentsCode.calls k a0_0 _ _ l0_1 _ t463 _ _ y464 t467 _ ?side1 ?side2 ?side3 ?side4 ?side5 A4.out).mono ?_); (case side1 => exact uC ((Kd.C_below HR0_1.out HB.out))); (case side2 => exact HC0_1.out); (case side3 => exact FnB.of Try.func31 (by kernel_rfl) rfl (fun W_ hW_ => calls_of_args (args' := #[.pointer (some ⟨gb461, 0, none⟩), .pointer (some ⟨gb462, 0, none⟩)]) (by simp) ((impl_ApplyFunctional_1.calls _ a0_0 _ _ l0_1 _ _ _ l1 _ W_ (blk_below (g := gb461) (o := .cells #[.int .i64 a0_0, .slice A0_1 l0_1.length c0_1] 26 (0, 0)) (uB BK461.out) hW_) (Kd.C_below (by exact uC ((Kd.C_below HR0_1.out HB.out))) hW_) (by exact HC0_1.out) (blk_below (g := gb462) (o := .cells #[.slice A1 l1.length c1] 24 (0, 0)) (uB BK462.out) hW_) (Kd.C_below (by exact uC ((Kd.V_reads' HO1.out).2.2)) hW_) (by exact (Kd.V_reads' HO1.out).2.1) A3.out).mono fun e_ W2_ h_ => ⟨h_.1, h_.2⟩))); (case side4 => exact uC ((Kd.N_reads' HO466.out).2.2)); (case side5 => exact (Kd.N_reads' HO466.out).2.1); rintro e w15 ⟨rfl, hb⟩; refine ⟨_, rfl, ?_⟩; replace HO1 := zA (Kd.V_below (by (with_reducible repeat (first | apply Kd.V_alloc | apply Kd.V_drewN | apply Kd.V_drew)); exact HO1.out) hb); replace HO466 := zA (Kd.N_below (by (with_reducible repeat (first | apply Kd.N_alloc | apply Kd.N_drewN | apply Kd.N_drew)); exact HO466.out) hb); replace BK461 := xB BK461 hb; replace BK462 := xB BK462 hb; replace HB := xH HB hb; (try clear hb); (try clear hb2); (try clear hk); (try clear hi); have hcz16_0 := bc BK461 0; have hcz16_1 := bc BK461 1; have hfz16_0 := bf BK461 0; have hfz16_1 := bf BK461 1; have hcz17_0 := bc BK462 0; have hfz17_0 := bf BK462 0) | ((with_reducible refine gate_callee (f := 33) rfl ?_); refine gL (some 17) Try.func33 #[.agg #[.int .i64 a0_0, .slice A0_1 l0_1.length c0_1], .slice A1 l1.length c1] ?_; (with_reducible refine (impl_Moments_apply.calls k a0_0 _ _ l0_1 _ _ l1 t468 _ ?side1 ?side2 ?side3 ?side4 A6.out).mono ?_); (case side1 => exact uC ((Kd.C_below HR0_1.out HB.out))); (case side2 => exact HC0_1.out); (case side3 => exact uC ((Kd.V_reads' HO1.out).2.2)); (case side4 => exact (Kd.V_reads' HO1.out).2.1); rintro e w18 ⟨rfl, hb⟩; refine ⟨_, rfl, ?_⟩; replace HO1 := zA (Kd.V_below (by (with_reducible repeat (first | apply Kd.V_alloc | apply Kd.V_drewN | apply Kd.V_drew)); exact HO1.out) hb); replace HO466 := zA (Kd.N_below (by (with_reducible repeat (first | apply Kd.N_alloc | apply Kd.N_drewN | apply Kd.N_drew)); exact HO466.out) hb); replace BK461 := xB BK461 hb; replace BK462 := xB BK462 hb; replace HB := xH HB hb; (try clear hb); (try clear hb2); (try clear hk); (try clear hi)))
 go_ret2
 exact ⟨by first | rfl | (simp [errW_none, errW_some] <;> rfl) | (simp [*, errW_none, errW_some] <;> rfl), uH HB.out⟩
/-! ### impl_CutMoments: function 19 -/
def impl_CutMoments.f (k : Nat) (a0_0 : Int) (l0_1 : List Int) (a1 : Int) : Option (Int × List Int × Int) := (impl_CutMoments_1.f a1 a0_0 l0_1).bind fun t590 => ((impl_momentsCode.f k a0_0 l0_1 t590 ([] : List (List Int))).bind fun t591 => (if t591 = 0 then (if 0 ≤ a1 then (if a1 ≤ (l0_1.length : Int) then ((impl_Moments_with.f a0_0 l0_1 (l0_1.take (a1 : Int).toNat)).bind fun bt593 => (some (bt593.1, bt593.2, 0))) else (none)) else (none)) else (some (0, ([] : List Int), t591))))
def impl_CutMoments.T4 : Bool × List (List Nat × List Nat) := (true, [([], []), ([], []), ([1], [1]), ([], []), ([2, 3], [2, 3]), ([0, 4], [0, 4]), ([5, 5, 0, 1, 2, 3, 4, 5], [5]), ([6, 0, 1, 2, 3, 4, 5, 6], [])])
def impl_CutMoments.B4 : List Nat := [0, 0, 2, 0, 14, 31, 63, 127]
theorem impl_CutMoments.tab4 : rtab .any (opsOf Try.f19 4) = impl_CutMoments.T4 := by kernel_rfl
theorem impl_CutMoments.bits4 : waitsOk impl_CutMoments.T4.2 impl_CutMoments.B4 = true := by kernel_rfl
set_option maxHeartbeats 8000000 in
set_option maxRecDepth 100000 in
theorem impl_CutMoments.calls (k : Nat) (a0_0 : Int) (A0_1 : Option Addr) (c0_1 : Nat) (l0_1 : List Int) (a1 : Int) (r1 : Int) (r2 : List Int) (r3 : Int) (w : World) (hr0_1 : Kd.C (Kd.int .i64) w A0_1 l0_1.length l0_1) (hc0_1 : l0_1.length ≤ c0_1) (h : impl_CutMoments.f k a0_0 l0_1 a1 = some (r1, r2, r3)) :
  Calls Try.prog 19 #[.agg #[.int .i64 a0_0, .slice A0_1 l0_1.length c0_1], .int .i64 a1] w fun e w' => ∃ v1_ : Value, e = .returned (.tuple #[.agg #[.int .i64 r1, v1_], .int .i64 r3]) ∧ Kd.R (Kd.int .i64) 2 w' w.heap.size (fun _ => True) v1_ r2 ∧ Below w.heap.size w w' := by
 have hu26 := Try.underlying26
 have hmf : ∀ (fn_ : Fn) (first_ cap_ : Array Value) (w_ : World), (Instr.makeFunc fn_ first_ cap_).run Try.prog w_ = .ok (.func fn_ first_ cap_) w_ := fun _ _ _ _ => rfl
 have HR0_1 := zA hr0_1
 have HC0_1 := zA hc0_1
 clear hr0_1 hc0_1
 have HB := zA (Below.refl w.heap.size w)
 have H : ((impl_CutMoments_1.f a1 a0_0 l0_1).bind fun t590 => ((impl_momentsCode.f k a0_0 l0_1 t590 ([] : List (List Int))).bind fun t591 => (if t591 = 0 then (if 0 ≤ a1 then (if a1 ≤ (l0_1.length : Int) then ((impl_Moments_with.f a0_0 l0_1 (l0_1.take (a1 : Int).toNat)).bind fun bt593 => (some (bt593.1, bt593.2, 0))) else (none)) else (none)) else (some (0, ([] : List Int), t591))))) = some (r1, r2, r3) := h
 clear h
 replace H := Option.bind_eq_some_iff.mp H
 obtain ⟨t590, A30, H⟩ := H
 replace H : ((impl_momentsCode.f k a0_0 l0_1 t590 ([] : List (List Int))).bind fun t591 => (if t591 = 0 then (if 0 ≤ a1 then (if a1 ≤ (l0_1.length : Int) then ((impl_Moments_with.f a0_0 l0_1 (l0_1.take (a1 : Int).toNat)).bind fun bt593 => (some (bt593.1, bt593.2, 0))) else (none)) else (none)) else (some (0, ([] : List Int), t591)))) = some (r1, r2, r3) := H
 have A3 := zA A30
 clear A30
 replace H := Option.bind_eq_some_iff.mp H
 obtain ⟨t591, A40, H⟩ := H
 replace H : (if t591 = 0 then (if 0 ≤ a1 then (if a1 ≤ (l0_1.length : Int) then ((impl_Moments_with.f a0_0 l0_1 (l0_1.take (a1 : Int).toNat)).bind fun bt593 => (some (bt593.1, bt593.2, 0))) else (none)) else (none)) else (some (0, ([] : List Int), t591))) = some (r1, r2, r3) := H
 have A4 := zA A40
 clear A40
 by_cases c5 : t591 = 0
 rotate_left
 ·rw [if_neg c5] at H
  have c5b0 : (t591 == 0) = false := beq_eq_false_iff_ne.mpr c5
  have c5b1 : (t591 != 0) = true := bne_iff_ne.mpr c5
  simp only [Option.some.injEq, Prod.mk.injEq] at H
  obtain ⟨rfl, rfl, rfl⟩ := H
  go_enter Try.func19, Try.ntmps19
  go_wp2_with (first | ((with_reducible refine gate_dst (N := 2) rfl ?_); refine bx 2 #[.int .i64 a0_0, .slice A0_1 l0_1.length c0_1] 26 ?_; intro gb587 hg w22 hbox hb; have BK587 := zA (hbox); have GW587 := gq HB hg; have GE587 := gq HB hg; replace HB := xH HB hb; have := geI GE587; clear hb hbox hg) | ((with_reducible refine gate_dst (N := 3) rfl ?_); refine bx 3 #[.int .i64 a1] 2 ?_; intro gb588 hg w23 hbox hb; have BK588 := zA (hbox); have GW588 := gq HB hg; have GE588 := gq HB hg; replace HB := xH HB hb; have NB587_588 := zA ((by rw [hg]; exact neL BK587 : gb587 ≠ gb588)); have NB588_587 := zA ((by rw [hg]; exact neG BK587 : gb588 ≠ gb587)); replace BK587 := xB BK587 hb; have := geI GE588; clear hb hbox hg) | ((with_reducible refine gate_dst (N := 4) rfl ?_); refine bx 4 #[.int .i64 0, .slice none 0 0] 26 ?_; intro gb589 hg w24 hbox hb; have BK589 := zA (hbox); have GW589 := gq HB hg; have GE589 := gq HB hg; replace HB := xH HB hb; have NB587_589 := zA ((by rw [hg]; exact neL BK587 : gb587 ≠ gb589)); have NB589_587 := zA ((by rw [hg]; exact neG BK587 : gb589 ≠ gb587)); replace BK587 := xB BK587 hb; have NB588_589 := zA ((by rw [hg]; exact neL BK588 : gb588 ≠ gb589)); have NB589_588 := zA ((by rw [hg]; exact neG BK588 : gb589 ≠ gb588)); replace BK588 := xB BK588 hb; have := geI GE589; clear hb hbox hg; have hnb25 := NB587_588.out; have hnc25 := NB588_587.out; have hnb26 := NB587_589.out; have hnc26 := NB589_587.out; have hcz27_0 := bc BK587 0; have hcz27_1 := bc BK587 1; have hfz27_0 := bf BK587 0; have hfz27_1 := bf BK587 1) | ((with_reducible refine gate_callee (f := 30) rfl ?_); refine gL (some 9) Try.func30 #[.agg #[.int .i64 a0_0, .slice A0_1 l0_1.length c0_1], (.func (.func 52) #[] #[.pointer (some ⟨gb588, 0, none⟩), .pointer (some ⟨gb587, 0, none⟩)]), .slice none 0 0] ?_; (refine (impl_momentsCode.calls k a0_0 _ _ l0_1 _ t590 _ _ ([] : List (List Int)) t591 _ ?side1 ?side2 ?side3 ?side4 ?side5 A4.out).mono ?_); (case side1 => exact uC ((Kd.C_below HR0_1.out HB.out))); (case side2 => exact HC0_1.out); (case side3 => exact FnB.of Try.func52 (by kernel_rfl) rfl (fun W_ hW_ => calls_of_args (args' := #[.pointer (some ⟨gb588, 0, none⟩), .pointer (some ⟨gb587, 0, none⟩)]) (by simp) ((impl_CutMoments_1.calls _ a1 _ a0_0 _ _ l0_1 _ W_ (blk_below (g := gb588) (o := .cells #[.int .i64 a1] 2 (0, 0)) (uB BK588.out) hW_) (blk_below (g := gb587) (o := .cells #[.int .i64 a0_0, .slice A0_1 l0_1.length c0_1] 26 (0, 0)) (uB BK587.out) hW_) (Kd.C_below (by exact uC ((Kd.C_below HR0_1.out HB.out))) hW_) (by exact HC0_1.out) A3.out).mono fun e_ W2_ h_ => ⟨h_.1, h_.2.below⟩))); (case side4 => exact Kd.C_nil _ _); (case side5 => exact Nat.le_refl _); rintro e w28 ⟨rfl, hb⟩; refine ⟨_, rfl, ?_⟩; replace BK587 := xB BK587 hb; replace BK588 := xB BK588 hb; replace BK589 := xB BK589 hb; replace HB := xH HB hb; (try clear hb); (try clear hb2); (try clear hk); (try clear hi); have hnb29 := NB589_588.out; have hnc29 := NB588_589.out; have hcz30_0 := bc BK589 0; have hcz30_1 := bc BK589 1; have hfz30_0 := bf BK589 0; have hfz30_1 := bf BK589 1))
  refine bodyPost_ret (results_ct rfl _ _ gb589 26 #[.int .i64 0, .slice none 0 0] (0, 0) _ rfl (by (repeat refine up1 ?_); refine blk_put (cs := #[.int .i64 0, .slice none 0 0]) ?_ 1 _ rfl; (repeat refine up1 ?_); refine blk_put (cs := #[.int .i64 0, .slice none 0 0]) ?_ 0 _ rfl; (repeat refine up1 ?_); exact BK589.out) Try.underlying26 rfl (by kernel_rfl)) rfl ?_
  exact ⟨_, by first | rfl | (simp [errW_none, errW_some] <;> rfl) | (simp [*, errW_none, errW_some] <;> rfl), by first | exact Kd.R_nil _ _ _ _ _ | exact Kd.N_nil _ _ _ _ _ | exact Kd.V_nil _ _ _ _ _ | exact Kd.Q_nil _ _ _ _ _ | exact Kd.S_nil _ _ _ _ _, uH HB.out⟩

 rw [if_pos c5] at H
 have c5b0 : (t591 == 0) = true := beq_iff_eq.mpr c5
 have c5b1 : (t591 != 0) = false := bne_eq_false_iff_eq.mpr c5
 clear c5
 by_cases c6 : 0 ≤ a1
 rotate_left
 ·rw [if_neg c6] at H
  exact absurd H (by simp)
 rw [if_pos c6] at H
 have c6b0 := eq_true c6
 have c6b1 : decide (0 ≤ a1) = true := decide_eq_true c6
 clear c6
 by_cases c7 : a1 ≤ (l0_1.length : Int)
 rotate_left
 ·rw [if_neg c7] at H
  exact absurd H (by simp)
 rw [if_pos c7] at H
 have c7b0 := eq_true c7
 have c7b1 : decide (a1 ≤ (l0_1.length : Int)) = true := decide_eq_true c7
 clear c7
 replace H := Option.bind_eq_some_iff.mp H
 obtain ⟨⟨t593, t594⟩, A80, H⟩ := H
 replace H : (some (t593, t594, 0)) = some (r1, r2, r3) := H
 have A8 := zA A80
 clear A80
 simp only [Option.some.injEq, Prod.mk.injEq] at H
 obtain ⟨rfl, rfl, rfl⟩ := H
 go_enter Try.func19, Try.ntmps19
 try go_wp2_with (first | ((with_reducible refine gate_dst (N := 2) rfl ?_); refine bx 2 #[.int .i64 a0_0, .slice A0_1 l0_1.length c0_1] 26 ?_; intro gb587 hg w9 hbox hb; have BK587 := zA (hbox); have GW587 := gq HB hg; have GE587 := gq HB hg; replace HB := xH HB hb; have := geI GE587; clear hb hbox hg) | ((with_reducible refine gate_dst (N := 3) rfl ?_); refine bx 3 #[.int .i64 a1] 2 ?_; intro gb588 hg w10 hbox hb; have BK588 := zA (hbox); have GW588 := gq HB hg; have GE588 := gq HB hg; replace HB := xH HB hb; have NB587_588 := zA ((by rw [hg]; exact neL BK587 : gb587 ≠ gb588)); have NB588_587 := zA ((by rw [hg]; exact neG BK587 : gb588 ≠ gb587)); replace BK587 := xB BK587 hb; have := geI GE588; clear hb hbox hg) | ((with_reducible refine gate_dst (N := 4) rfl ?_); refine bx 4 #[.int .i64 0, .slice none 0 0] 26 ?_; intro gb589 hg w11 hbox hb; have BK589 := zA (hbox); have GW589 := gq HB hg; have GE589 := gq HB hg; replace HB := xH HB hb; have NB587_589 := zA ((by rw [hg]; exact neL BK587 : gb587 ≠ gb589)); have NB589_587 := zA ((by rw [hg]; exact neG BK587 : gb589 ≠ gb587)); replace BK587 := xB BK587 hb; have NB588_589 := zA ((by rw [hg]; exact neL BK588 : gb588 ≠ gb589)); have NB589_588 := zA ((by rw [hg]; exact neG BK588 : gb589 ≠ gb588)); replace BK588 := xB BK588 hb; have := geI GE589; clear hb hbox hg; have hnb12 := NB587_588.out; have hnc12 := NB588_587.out; have hnb13 := NB587_589.out; have hnc13 := NB589_587.out; have hcz14_0 := bc BK587 0; have hcz14_1 := bc BK587 1; have hfz14_0 := bf BK587 0; have hfz14_1 := bf BK587 1) | ((with_reducible refine gate_callee (f := 30) rfl ?_); refine gL (some 9) Try.func30 #[.agg #[.int .i64 a0_0, .slice A0_1 l0_1.length c0_1], (.func (.func 52) #[] #[.pointer (some ⟨gb588, 0, none⟩), .pointer (some ⟨gb587, 0, none⟩)]), .slice none 0 0] ?_; (refine (impl_momentsCode.calls k a0_0 _ _ l0_1 _ t590 _ _ ([] : List (List Int)) t591 _ ?side1 ?side2 ?side3 ?side4 ?side5 A4.out).mono ?_); (case side1 => exact uC ((Kd.C_below HR0_1.out HB.out))); (case side2 => exact HC0_1.out); (case side3 => exact FnB.of Try.func52 (by kernel_rfl) rfl (fun W_ hW_ => calls_of_args (args' := #[.pointer (some ⟨gb588, 0, none⟩), .pointer (some ⟨gb587, 0, none⟩)]) (by simp) ((impl_CutMoments_1.calls _ a1 _ a0_0 _ _ l0_1 _ W_ (blk_below (g := gb588) (o := .cells #[.int .i64 a1] 2 (0, 0)) (uB BK588.out) hW_) (blk_below (g := gb587) (o := .cells #[.int .i64 a0_0, .slice A0_1 l0_1.length c0_1] 26 (0, 0)) (uB BK587.out) hW_) (Kd.C_below (by exact uC ((Kd.C_below HR0_1.out HB.out))) hW_) (by exact HC0_1.out) A3.out).mono fun e_ W2_ h_ => ⟨h_.1, h_.2.below⟩))); (case side4 => exact Kd.C_nil _ _); (case side5 => exact Nat.le_refl _); rintro e w15 ⟨rfl, hb⟩; refine ⟨_, rfl, ?_⟩; replace BK587 := xB BK587 hb; replace BK588 := xB BK588 hb; replace BK589 := xB BK589 hb; replace HB := xH HB hb; (try clear hb); (try clear hb2); (try clear hk); (try clear hi)))
 replace BK587 := zA (blk_drew BK587.out)
 replace BK588 := zA (blk_drew BK588.out)
 replace BK589 := zA (blk_drew BK589.out)
 replace HB := zA (below_drew1 HB.out)
 obtain ⟨i017, hi017, _, hsz17, _⟩ := info_parts info2
 obtain ⟨hcut17, hA17, hC17⟩ := print_take_of (P := Try.prog) (Value.int .i64) 0 24 2 .i64 Try.underlying24 hi017 hsz17 A0_1 c0_1 l0_1 a1 (of_decide_eq_true (by first | (with_reducible assumption) | assumption)) (of_decide_eq_true (by first | (with_reducible assumption) | assumption)) HC0_1.out
 have HR592 := zA (Kd.C_of_reads (h1 := fun _ => rfl) (hA17 _ (Kd.reads_of_C HR0_1.out)))
 have HC592 := zA hC17
 clear hA17 hC17 hi017 hsz17
 refine start_ (n := 8) (S := fun w' => w'.cell? ⟨gb587, 0, none⟩ = some (.int .i64 a0_0) ∧ w'.cell? ⟨gb587, 1, none⟩ = some (.slice A0_1 l0_1.length c0_1) ∧ w'.cell? ⟨gb588, 0, none⟩ = some (.int .i64 a1)) (ds := []) #[false, false, false, false, false, false, false, false] (by kernel_rfl) rfl rfl ⟨bcu BK587 0, bcu BK587 1, bcu BK588 0⟩ (fun hHeld => ?_); refine with_tabW impl_CutMoments.tab4 impl_CutMoments.bits4 (fun HT_ HW_ => ?_)
 generalize w15.drew = w16 at BK587 BK588 BK589 HB HR592 hHeld ⊢
 refine pu_ 1 15 (bl 8 2) HT_ ?_
 refine ta_ 0 14 (bl 8 3) HT_ HW_ hHeld ?_
 refine ta_ 2 16 (bl 8 7) HT_ HW_ hHeld ?_
 refine ta_ 3 17 (bl 8 15) HT_ HW_ hHeld ?_
 refine pu_ 4 18 (bl 8 31) HT_ ?_
 refine on_ 5 (some 19) (bl 8 63) HT_ (fun K hK => ?_)
 refine goes_ Try.func49 (by kernel_rfl) rfl #[.agg #[.int .i64 a0_0, .slice A0_1 l0_1.length c0_1], .slice A0_1 (l0_1.take (a1 : Int).toNat).length c0_1] (by rfl) rfl rfl (by (try simp only [la, lb, lc]); first | done | (rw [show (l0_1.take (a1 : Int).toNat).length = a1.toNat from (by rw [List.length_take]; have h_ : (a1 : Int) ≤ (l0_1.length : Int) := of_decide_eq_true (by first | (with_reducible assumption) | assumption); omega)] <;> rfl) | rfl | (simp only [ld, le]; rfl)) ?_
 with_reducible refine (impl_Moments_with.calls a0_0 _ _ l0_1 _ _ (l0_1.take (a1 : Int).toNat) t593 t594 _ ?side1 ?side2 ?side3 ?side4 A8.out).mono ?_
 (case side1 => exact uC ((Kd.C_below HR0_1.out HB.out)))
 (case side2 => exact HC0_1.out)
 (case side3 => exact uC ((Kd.C_below HR592.out HB.out)))
 (case side4 => exact HC592.out)
 rintro e w18 ⟨v595, rfl, ho0, hb⟩
 refine ⟨_, rfl, ?_⟩
 have HO596 := zA (Kd.R_lower (Kd.R_newB ho0 (g := gb588) (o := .cells #[.int .i64 a1] 2 (0, 0)) (uB BK588.out)) (below_size (uH HB.out)))
 replace BK587 := xB BK587 hb
 replace BK588 := xB BK588 hb
 replace BK589 := xB BK589 hb
 replace HB := xH HB hb
 (try clear hb); (try clear hb2); (try clear hk); (try clear hi); (try clear ho0)
 obtain ⟨Ao20, co20, eo20⟩ := Kd.R_slice HO596.out
 (first | subst eo20 | (injection eo20 with f1_ f2_ f3_; have f4_ := f1_.symm; have f5_ := f3_.symm; clear f1_ f2_ f3_; subst f4_; subst f5_))
 refine hK.out _ _ ⟨bcu BK587 0, bcu BK587 1, bcu BK588 0⟩ (fun hHeld => ?_)
 clear hK K
 refine no_ 19 ?_
 refine on_ 6 (none) (bl 8 127) HT_ (fun K hK => ?_)
 have hs19 : w18.cell? ⟨gb589, 0, none⟩ = some (.int .i64 0) := (blk_cell BK589.out 0).trans rfl
 have hfs19 := bf BK589 0
 have hns19_0 := NB587_589.out; have hns19_1 := NB588_589.out; have hms19_0 := NB589_587.out; have hms19_1 := NB589_588.out
 have hs21 : w18.cell? ⟨gb589, 1, none⟩ = some (.slice none 0 0) := (blk_cell BK589.out 1).trans rfl
 have hfs21 := bf BK589 1
 have hns21_0 := NB587_589.out; have hns21_1 := NB588_589.out; have hms21_0 := NB589_587.out; have hms21_1 := NB589_588.out
 refine skip_ (w1 := ?_) (by rfl) rfl ?_ ?_
 rotate_left
 ·go_simp
  rfl
 refine hK.out _ _ ⟨((cell_far (p := ⟨gb589, _, none⟩) NB587_589.out _).trans (((cell_far (p := ⟨gb589, _, none⟩) NB587_589.out _).trans (hHeld.1)))), ((cell_far (p := ⟨gb589, _, none⟩) NB587_589.out _).trans (((cell_far (p := ⟨gb589, _, none⟩) NB587_589.out _).trans (hHeld.2.1)))), ((cell_far (p := ⟨gb589, _, none⟩) NB588_589.out _).trans (((cell_far (p := ⟨gb589, _, none⟩) NB588_589.out _).trans (hHeld.2.2))))⟩ (fun hHeld => ?_)
 clear hK K
 refine pu_ 7 5 (bl 8 255) HT_ ?_
 refine done_ (done_of HT_.out (by kernel_rfl)) ?_
 try go_wp2
 refine bodyPost_ret (results_ct rfl _ _ gb589 26 #[.int .i64 t593, .slice Ao20 t594.length co20] (0, 0) _ rfl (by (repeat refine up1 ?_); refine blk_put (cs := #[.int .i64 t593, .slice none 0 0]) ?_ 1 _ rfl; (repeat refine up1 ?_); refine blk_put (cs := #[.int .i64 0, .slice none 0 0]) ?_ 0 _ rfl; (repeat refine up1 ?_); exact BK589.out) Try.underlying26 rfl (by kernel_rfl)) rfl ?_
 exact ⟨_, by first | rfl | (simp [errW_none, errW_some] <;> rfl) | (simp [*, errW_none, errW_some] <;> rfl), uR (Kd.R_mono (Kd.R_far (p := ⟨gb589, 1, none⟩) (Kd.R_far (p := ⟨gb589, 0, none⟩) (Kd.R_types HO596.out BK589.out (by decide)) (fun _ hk => hk.2) (.int .i64 t593)) (fun _ hk => hk.2) (.slice Ao20 t594.length co20)) (fun _ hk => trivial)), uH HB.out⟩
/-! ### impl_ProductMoments: function 12 -/
def impl_ProductMoments.f (k : Nat) (a0_0 : Int) (l0_1 : List Int) (l1 : List Int) : Option (Int × List Int × Int) := (impl_ProductMoments_1.f a0_0 l0_1 l1).bind fun t508 => ((impl_momentsCode.f k a0_0 l0_1 t508 (([l1] : List (List Int)))).bind fun t512 => (if t512 = 0 then ((impl_Moments_product.f k a0_0 l0_1 l1).bind fun bt513 => (some (bt513.1, bt513.2, 0))) else (some (0, ([] : List Int), t512))))
set_option maxHeartbeats 8000000 in
set_option maxRecDepth 100000 in
theorem impl_ProductMoments.calls (k : Nat) (a0_0 : Int) (A0_1 : Option Addr) (c0_1 : Nat) (l0_1 : List Int) (P1_ : Nat → Prop) (A1 : Option Addr) (c1 : Nat) (l1 : List Int) (r1 : Int) (r2 : List Int) (r3 : Int) (w : World) (hr0_1 : Kd.C (Kd.int .i64) w A0_1 l0_1.length l0_1) (hc0_1 : l0_1.length ≤ c0_1) (hs1 : Kd.V (Kd.int .i64) 2 w w.heap.size (fun k_ => P1_ k_) (.slice A1 l1.length c1) l1) (h : impl_ProductMoments.f k a0_0 l0_1 l1 = some (r1, r2, r3)) :
  Calls Try.prog 12 #[.agg #[.int .i64 a0_0, .slice A0_1 l0_1.length c0_1], .slice A1 l1.length c1] w fun e w' => ∃ v1_ : Value, e = .returned (.tuple #[.agg #[.int .i64 r1, v1_], .int .i64 r3]) ∧ Kd.R (Kd.int .i64) 2 w' w.heap.size (fun k_ => (w.heap.size ≤ k_)) v1_ r2 ∧ Below w.heap.size w w' := by
 have hu26 := Try.underlying26
 have hmf : ∀ (fn_ : Fn) (first_ cap_ : Array Value) (w_ : World), (Instr.makeFunc fn_ first_ cap_).run Try.prog w_ = .ok (.func fn_ first_ cap_) w_ := fun _ _ _ _ => rfl
 have HR0_1 := zA hr0_1
 have HC0_1 := zA hc0_1
 clear hr0_1 hc0_1
 have HO1 := zA (show Kd.V (Kd.int .i64) 2 w w.heap.size (fun k_ => (P1_ k_ ∨ w.heap.size ≤ k_)) (.slice A1 l1.length c1) l1 from Kd.V_mono hs1 (fun k_ hk => .inl hk))
 have HB := zA (Below.refl w.heap.size w)
 have H : ((impl_ProductMoments_1.f a0_0 l0_1 l1).bind fun t508 => ((impl_momentsCode.f k a0_0 l0_1 t508 (([l1] : List (List Int)))).bind fun t512 => (if t512 = 0 then ((impl_Moments_product.f k a0_0 l0_1 l1).bind fun bt513 => (some (bt513.1, bt513.2, 0))) else (some (0, ([] : List Int), t512))))) = some (r1, r2, r3) := h
 clear h
 replace H := Option.bind_eq_some_iff.mp H
 obtain ⟨t508, A30, H⟩ := H
 replace H : ((impl_momentsCode.f k a0_0 l0_1 t508 (([l1] : List (List Int)))).bind fun t512 => (if t512 = 0 then ((impl_Moments_product.f k a0_0 l0_1 l1).bind fun bt513 => (some (bt513.1, bt513.2, 0))) else (some (0, ([] : List Int), t512)))) = some (r1, r2, r3) := H
 have A3 := zA A30
 clear A30
 obtain ⟨y509, hy509⟩ : ∃ y_ : List (List Int), y_ = (([l1] : List (List Int))) := ⟨_, rfl⟩
 replace H : ((impl_momentsCode.f k a0_0 l0_1 t508 y509).bind fun t512 => (if t512 = 0 then ((impl_Moments_product.f k a0_0 l0_1 l1).bind fun bt513 => (some (bt513.1, bt513.2, 0))) else (some (0, ([] : List Int), t512)))) = some (r1, r2, r3) := by first | (rw [hy509]; exact H) | exact H
 have Ny509 := zA hy509
 clear hy509
 replace H := Option.bind_eq_some_iff.mp H
 obtain ⟨t512, A40, H⟩ := H
 replace H : (if t512 = 0 then ((impl_Moments_product.f k a0_0 l0_1 l1).bind fun bt513 => (some (bt513.1, bt513.2, 0))) else (some (0, ([] : List Int), t512))) = some (r1, r2, r3) := H
 have A4 := zA A40
 clear A40
 by_cases c5 : t512 = 0
 rotate_left
 ·rw [if_neg c5] at H
  have c5b0 : (t512 == 0) = false := beq_eq_false_iff_ne.mpr c5
  have c5b1 : (t512 != 0) = true := bne_iff_ne.mpr c5
  simp only [Option.some.injEq, Prod.mk.injEq] at H
  obtain ⟨rfl, rfl, rfl⟩ := H
  go_enter Try.func12, Try.ntmps12
  go_wp2_with (first | ((with_reducible refine gate_dst (N := 2) rfl ?_); refine bx 2 #[.int .i64 a0_0, .slice A0_1 l0_1.length c0_1] 26 ?_; intro gb505 hg w24 hbox hb; replace HO1 := zA (Kd.V_below (Kd.V_elderB (by (with_reducible repeat (first | apply Kd.V_alloc | apply Kd.V_drewN | apply Kd.V_drew)); exact HO1.out) gb505 (Nat.le_of_eq hg.symm)) hb); have BK505 := zA (hbox); have GW505 := gq HB hg; have GE505 := gq HB hg; replace HB := xH HB hb; have := geI GE505; clear hb hbox hg) | ((with_reducible refine gate_dst (N := 3) rfl ?_); refine bx 3 #[.slice A1 l1.length c1] 24 ?_; intro gb506 hg w25 hbox hb; replace HO1 := zA (Kd.V_below (Kd.V_elderB (by (with_reducible repeat (first | apply Kd.V_alloc | apply Kd.V_drewN | apply Kd.V_drew)); exact HO1.out) gb506 (Nat.le_of_eq hg.symm)) hb); have BK506 := zA (hbox); have GW506 := gq HB hg; have GE506 := gq HB hg; replace HB := xH HB hb; have NB505_506 := zA ((by rw [hg]; exact neL BK505 : gb505 ≠ gb506)); have NB506_505 := zA ((by rw [hg]; exact neG BK505 : gb506 ≠ gb505)); replace BK505 := xB BK505 hb; have := geI GE506; clear hb hbox hg) | ((with_reducible refine gate_dst (N := 4) rfl ?_); refine bx 4 #[.int .i64 0, .slice none 0 0] 26 ?_; intro gb507 hg w26 hbox hb; replace HO1 := zA (Kd.V_below (Kd.V_elderB (by (with_reducible repeat (first | apply Kd.V_alloc | apply Kd.V_drewN | apply Kd.V_drew)); exact HO1.out) gb507 (Nat.le_of_eq hg.symm)) hb); have BK507 := zA (hbox); have GW507 := gq HB hg; have GE507 := gq HB hg; replace HB := xH HB hb; have NB505_507 := zA ((by rw [hg]; exact neL BK505 : gb505 ≠ gb507)); have NB507_505 := zA ((by rw [hg]; exact neG BK505 : gb507 ≠ gb505)); replace BK505 := xB BK505 hb; have NB506_507 := zA ((by rw [hg]; exact neL BK506 : gb506 ≠ gb507)); have NB507_506 := zA ((by rw [hg]; exact neG BK506 : gb507 ≠ gb506)); replace BK506 := xB BK506 hb; have := geI GE507; clear hb hbox hg; have hnb27 := NB505_506.out; have hnc27 := NB506_505.out; have hnb28 := NB505_507.out; have hnc28 := NB507_505.out; have hcz29_0 := bc BK505 0; have hcz29_1 := bc BK505 1; have hfz29_0 := bf BK505 0; have hfz29_1 := bf BK505 1; have hnb30 := NB506_507.out; have hnc30 := NB507_506.out; have hcz31_0 := bc BK506 0; have hfz31_0 := bf BK506 0) | ((with_reducible refine gate_dst (N := 10) rfl ?_); refine Kd.N_lit (Kd.slice 2 (Kd.int .i64)) _ 24 ?hg (N' := 10) ?hd (xs := ([l1] : List (List Int))) (inner := [.slice A1 l1.length c1]) (ok := (fun k_ => (P1_ k_ ∨ w.heap.size ≤ k_) ∧ k_ ≠ gb505 ∧ k_ ≠ gb506 ∧ k_ ≠ gb507)) (okp := (fun k_ => (P1_ k_ ∨ w.heap.size ≤ k_) ∧ k_ ≠ gb505 ∧ k_ ≠ gb506 ∧ k_ ≠ gb507)) ?hr ?hp (fun _ hk => hk) ((show ∀ k_, w26.heap.size ≤ k_ → (fun k_ => (P1_ k_ ∨ w.heap.size ≤ k_) ∧ k_ ≠ gb505 ∧ k_ ≠ gb506 ∧ k_ ≠ gb507) k_ from fun k_ hk => ⟨(.inr (Nat.le_trans (below_size (uH HB.out)) hk)), Kd.freshB (g := gb505) (o := .cells #[.int .i64 a0_0, .slice A0_1 l0_1.length c0_1] 26 (0, 0)) (uB BK505.out) k_ hk, Kd.freshB (g := gb506) (o := .cells #[.slice A1 l1.length c1] 24 (0, 0)) (uB BK506.out) k_ hk, Kd.freshB (g := gb507) (o := .cells #[.int .i64 0, .slice none 0 0] 26 (0, 0)) (uB BK507.out) k_ hk⟩) _ (Nat.le_refl _)) (Below.refl _ _) (Nat.le_refl _) (by simp) ?_; (case hd => rfl); (case hg => rfl); (case hr => first | (go_simp; done) | (go_simp; rfl)); (case hp => exact (Reps.one (show Kd.FK (Kd.slice 2 (Kd.int .i64)) _ _ l1 [.slice A1 l1.length c1] from (Kd.FK_slice_mk (Kd.V_reads' (Kd.V_mono (ok' := (fun k_ => (P1_ k_ ∨ w.heap.size ≤ k_) ∧ k_ ≠ gb505 ∧ k_ ≠ gb506 ∧ k_ ≠ gb507)) (HO1.out) (fun k_ hk => ⟨hk.1.1.1, ⟨hk.1.1.2, ⟨hk.1.2, hk.2⟩⟩⟩))).2.1 (Kd.V_F (Kd.V_mono (ok' := (fun k_ => (P1_ k_ ∨ w.heap.size ≤ k_) ∧ k_ ≠ gb505 ∧ k_ ≠ gb506 ∧ k_ ≠ gb507)) (HO1.out) (fun k_ hk => ⟨hk.1.1.1, ⟨hk.1.1.2, ⟨hk.1.2, hk.2⟩⟩⟩))))) (Reps.none _ _))); intro v510 w32 ho33 hb hg_ hnew_; clear hg_ hnew_; (first | rw [← Ny509.out] at ho33 | (simp only [Int.reduceToNat] at ho33; rw [← Ny509.out] at ho33)); replace HO1 := zA (Kd.V_elder' (by (with_reducible repeat (first | apply Kd.V_alloc | apply Kd.V_drewN | apply Kd.V_drew)); exact HO1.out) (Kd.N_base ho33) hb); have HO511 := zA (Kd.N_lower ho33 (below_size (uH HB.out))); replace BK505 := xB BK505 hb; replace BK506 := xB BK506 hb; replace BK507 := xB BK507 hb; replace HB := xH HB hb; clear hb ho33; obtain ⟨Ao34, co34, eo34⟩ := Kd.N_slice HO511.out; subst eo34) | ((with_reducible refine gate_callee (f := 30) rfl ?_); refine gL (some 11) Try.func30 #[.agg #[.int .i64 a0_0, .slice A0_1 l0_1.length c0_1], (.func (.func 43) #[] #[.pointer (some ⟨gb505, 0, none⟩), .pointer (some ⟨gb506, 0, none⟩)]), .slice Ao34 y509.length co34] ?_; (with_reducible refine (impl_momentsCode.calls k a0_0 _ _ l0_1 _ t508 _ _ y509 t512 _ ?side1 ?side2 ?side3 ?side4 ?side5 A4.out).mono ?_); (case side1 => exact uC ((Kd.C_below HR0_1.out HB.out))); (case side2 => exact HC0_1.out); (case side3 => exact FnB.of Try.func43 (by kernel_rfl) rfl (fun W_ hW_ => calls_of_args (args' := #[.pointer (some ⟨gb505, 0, none⟩), .pointer (some ⟨gb506, 0, none⟩)]) (by simp) ((impl_ProductMoments_1.calls _ a0_0 _ _ l0_1 _ _ _ l1 _ W_ (blk_below (g := gb505) (o := .cells #[.int .i64 a0_0, .slice A0_1 l0_1.length c0_1] 26 (0, 0)) (uB BK505.out) hW_) (Kd.C_below (by exact uC ((Kd.C_below HR0_1.out HB.out))) hW_) (by exact HC0_1.out) (blk_below (g := gb506) (o := .cells #[.slice A1 l1.length c1] 24 (0, 0)) (uB BK506.out) hW_) (Kd.C_below (by exact uC ((Kd.V_reads' HO1.out).2.2)) hW_) (by exact (Kd.V_reads' HO1.out).2.1) A3.out).mono fun e_ W2_ h_ => ⟨h_.1, h_.2⟩))); (case side4 => exact uC ((Kd.N_reads' HO511.out).2.2)); (case side5 => exact (Kd.N_reads' HO511.out).2.1); rintro e w35 ⟨rfl, hb⟩; refine ⟨_, rfl, ?_⟩; replace HO1 := zA (Kd.V_below (by (with_reducible repeat (first | apply Kd.V_alloc | apply Kd.V_drewN | apply Kd.V_drew)); exact HO1.out) hb); replace HO511 := zA (Kd.N_below (by (with_reducible repeat (first | apply Kd.N_alloc | apply Kd.N_drewN | apply Kd.N_drew)); exact HO511.out) hb); replace BK505 := xB BK505 hb; replace BK506 := xB BK506 hb; replace BK507 := xB BK507 hb; replace HB := xH HB hb; (try clear hb); (try clear hb2); (try clear hk); (try clear hi); have hcz36_0 := bc BK507 0; have hcz36_1 := bc BK507 1; have hfz36_0 := bf BK507 0; have hfz36_1 := bf BK507 1))
  refine bodyPost_ret (results_ct rfl _ _ gb507 26 #[.int .i64 0, .slice none 0 0] (0, 0) _ rfl (by (repeat refine up1 ?_); refine blk_put (cs := #[.int .i64 0, .slice none 0 0]) ?_ 1 _ rfl; (repeat refine up1 ?_); refine blk_put (cs := #[.int .i64 0, .slice none 0 0]) ?_ 0 _ rfl; (repeat refine up1 ?_); exact BK507.out) Try.underlying26 rfl (by kernel_rfl)) rfl ?_
  exact ⟨_, by first | rfl | (simp [errW_none, errW_some] <;> rfl) | (simp [*, errW_none, errW_some] <;> rfl), by first | exact Kd.R_nil _ _ _ _ _ | exact Kd.N_nil _ _ _ _ _ | exact Kd.V_nil _ _ _ _ _ | exact Kd.Q_nil _ _ _ _ _ | exact Kd.S_nil _ _ _ _ _, uH HB.out⟩

 rw [if_pos c5] at H
 have c5b0 : (t512 == 0) = true := beq_iff_eq.mpr c5
 have c5b1 : (t512 != 0) = false := bne_eq_false_iff_eq.mpr c5
 clear c5
 replace H := Option.bind_eq_some_iff.mp H
 obtain ⟨⟨t513, t514⟩, A60, H⟩ := H
 replace H : (some (t513, t514, 0)) = some (r1, r2, r3) := H
 have A6 := zA A60
 clear A60
 simp only [Option.some.injEq, Prod.mk.injEq] at H
 obtain ⟨rfl, rfl, rfl⟩ := H
 go_enter Try.func12, Try.ntmps12
 go_wp2_with (first | ((with_reducible refine gate_dst (N := 2) rfl ?_); refine bx 2 #[.int .i64 a0_0, .slice A0_1 l0_1.length c0_1] 26 ?_; intro gb505 hg w7 hbox hb; replace HO1 := zA (Kd.V_below (Kd.V_elderB (by (with_reducible repeat (first | apply Kd.V_alloc | apply Kd.V_drewN | apply Kd.V_drew)); exact HO1.out) gb505 (Nat.le_of_eq hg.symm)) hb); have BK505 := zA (hbox); have GW505 := gq HB hg; have GE505 := gq HB hg; replace HB := xH HB hb; have := geI GE505; clear hb hbox hg) | ((with_reducible refine gate_dst (N := 3) rfl ?_); refine bx 3 #[.slice A1 l1.length c1] 24 ?_; intro gb506 hg w8 hbox hb; replace HO1 := zA (Kd.V_below (Kd.V_elderB (by (with_reducible repeat (first | apply Kd.V_alloc | apply Kd.V_drewN | apply Kd.V_drew)); exact HO1.out) gb506 (Nat.le_of_eq hg.symm)) hb); have BK506 := zA (hbox); have GW506 := gq HB hg; have GE506 := gq HB hg; replace HB := xH HB hb; have NB505_506 := zA ((by rw [hg]; exact neL BK505 : gb505 ≠ gb506)); have NB506_505 := zA ((by rw [hg]; exact neG BK505 : gb506 ≠ gb505)); replace BK505 := xB BK505 hb; have := geI GE506; clear hb hbox hg) | ((with_reducible refine gate_dst (N := 4) rfl ?_); refine bx 4 #[.int .i64 0, .slice none 0 0] 26 ?_; intro gb507 hg w9 hbox hb; replace HO1 := zA (Kd.V_below (Kd.V_elderB (by (with_reducible repeat (first | apply Kd.V_alloc | apply Kd.V_drewN | apply Kd.V_drew)); exact HO1.out) gb507 (Nat.le_of_eq hg.symm)) hb); have BK507 := zA (hbox); have GW507 := gq HB hg; have GE507 := gq HB hg; replace HB := xH HB hb; have NB505_507 := zA ((by rw [hg]; exact neL BK505 : gb505 ≠ gb507)); have NB507_505 := zA ((by rw [hg]; exact neG BK505 : gb507 ≠ gb505)); replace BK505 := xB BK505 hb; have NB506_507 := zA ((by rw [hg]; exact neL BK506 : gb506 ≠ gb507)); have NB507_506 := zA ((by rw [hg]; exact neG BK506 : gb507 ≠ gb506)); replace BK506 := xB BK506 hb; have := geI GE507; clear hb hbox hg; have hnb10 := NB505_506.out; have hnc10 := NB506_505.out; have hnb11 := NB505_507.out; have hnc11 := NB507_505.out; have hcz12_0 := bc BK505 0; have hcz12_1 := bc BK505 1; have hfz12_0 := bf BK505 0; have hfz12_1 := bf BK505 1; have hnb13 := NB506_507.out; have hnc13 := NB507_506.out; have hcz14_0 := bc BK506 0; have hfz14_0 := bf BK506 0) | ((with_reducible refine gate_dst (N := 10) rfl ?_); refine Kd.N_lit (Kd.slice 2 (Kd.int .i64)) _ 24 ?hg (N' := 10) ?hd (xs := ([l1] : List (List Int))) (inner := [.slice A1 l1.length c1]) (ok := (fun k_ => (P1_ k_ ∨ w.heap.size ≤ k_) ∧ k_ ≠ gb505 ∧ k_ ≠ gb506 ∧ k_ ≠ gb507)) (okp := (fun k_ => (P1_ k_ ∨ w.heap.size ≤ k_) ∧ k_ ≠ gb505 ∧ k_ ≠ gb506 ∧ k_ ≠ gb507)) ?hr ?hp (fun _ hk => hk) ((show ∀ k_, w9.heap.size ≤ k_ → (fun k_ => (P1_ k_ ∨ w.heap.size ≤ k_) ∧ k_ ≠ gb505 ∧ k_ ≠ gb506 ∧ k_ ≠ gb507) k_ from fun k_ hk => ⟨(.inr (Nat.le_trans (below_size (uH HB.out)) hk)), Kd.freshB (g := gb505) (o := .cells #[.int .i64 a0_0, .slice A0_1 l0_1.length c0_1] 26 (0, 0)) (uB BK505.out) k_ hk, Kd.freshB (g := gb506) (o := .cells #[.slice A1 l1.length c1] 24 (0, 0)) (uB BK506.out) k_ hk, Kd.freshB (g := gb507) (o := .cells #[.int .i64 0, .slice none 0 0] 26 (0, 0)) (uB BK507.out) k_ hk⟩) _ (Nat.le_refl _)) (Below.refl _ _) (Nat.le_refl _) (by simp) ?_; (case hd => rfl); (case hg => rfl); (case hr => first | (go_simp; done) | (go_simp; rfl)); (case hp => exact (Reps.one (show Kd.FK (Kd.slice 2 (Kd.int .i64)) _ _ l1 [.slice A1 l1.length c1] from (Kd.FK_slice_mk (Kd.V_reads' (Kd.V_mono (ok' := (fun k_ => (P1_ k_ ∨ w.heap.size ≤ k_) ∧ k_ ≠ gb505 ∧ k_ ≠ gb506 ∧ k_ ≠ gb507)) (HO1.out) (fun k_ hk => ⟨hk.1.1.1, ⟨hk.1.1.2, ⟨hk.1.2, hk.2⟩⟩⟩))).2.1 (Kd.V_F (Kd.V_mono (ok' := (fun k_ => (P1_ k_ ∨ w.heap.size ≤ k_) ∧ k_ ≠ gb505 ∧ k_ ≠ gb506 ∧ k_ ≠ gb507)) (HO1.out) (fun k_ hk => ⟨hk.1.1.1, ⟨hk.1.1.2, ⟨hk.1.2, hk.2⟩⟩⟩))))) (Reps.none _ _))); intro v510 w15 ho16 hb hg_ hnew_; clear hg_ hnew_; (first | rw [← Ny509.out] at ho16 | (simp only [Int.reduceToNat] at ho16; rw [← Ny509.out] at ho16)); replace HO1 := zA (Kd.V_elder' (by (with_reducible repeat (first | apply Kd.V_alloc | apply Kd.V_drewN | apply Kd.V_drew)); exact HO1.out) (Kd.N_base ho16) hb); have HO511 := zA (Kd.N_lower ho16 (below_size (uH HB.out))); replace BK505 := xB BK505 hb; replace BK506 := xB BK506 hb; replace BK507 := xB BK507 hb; replace HB := xH HB hb; clear hb ho16; obtain ⟨Ao17, co17, eo17⟩ := Kd.N_slice HO511.out; subst eo17) | ((with_reducible refine gate_callee (f := 30) rfl ?_); refine gL (some 11) Try.func30 #[.agg #[.int .i64 a0_0, .slice A0_1 l0_1.length c0_1], (.func (.func 43) #[] #[.pointer (some ⟨gb505, 0, none⟩), .pointer (some ⟨gb506, 0, none⟩)]), .slice Ao17 y509.length co17] ?_; (with_reducible refine (impl_momentsCode.calls k a0_0 _ _ l0_1 _ t508 _ _ y509 t512 _ ?side1 ?side2 ?side3 ?side4 ?side5 A4.out).mono ?_); (case side1 => exact uC ((Kd.C_below HR0_1.out HB.out))); (case side2 => exact HC0_1.out); (case side3 => exact FnB.of Try.func43 (by kernel_rfl) rfl (fun W_ hW_ => calls_of_args (args' := #[.pointer (some ⟨gb505, 0, none⟩), .pointer (some ⟨gb506, 0, none⟩)]) (by simp) ((impl_ProductMoments_1.calls _ a0_0 _ _ l0_1 _ _ _ l1 _ W_ (blk_below (g := gb505) (o := .cells #[.int .i64 a0_0, .slice A0_1 l0_1.length c0_1] 26 (0, 0)) (uB BK505.out) hW_) (Kd.C_below (by exact uC ((Kd.C_below HR0_1.out HB.out))) hW_) (by exact HC0_1.out) (blk_below (g := gb506) (o := .cells #[.slice A1 l1.length c1] 24 (0, 0)) (uB BK506.out) hW_) (Kd.C_below (by exact uC ((Kd.V_reads' HO1.out).2.2)) hW_) (by exact (Kd.V_reads' HO1.out).2.1) A3.out).mono fun e_ W2_ h_ => ⟨h_.1, h_.2⟩))); (case side4 => exact uC ((Kd.N_reads' HO511.out).2.2)); (case side5 => exact (Kd.N_reads' HO511.out).2.1); rintro e w18 ⟨rfl, hb⟩; refine ⟨_, rfl, ?_⟩; replace HO1 := zA (Kd.V_below (by (with_reducible repeat (first | apply Kd.V_alloc | apply Kd.V_drewN | apply Kd.V_drew)); exact HO1.out) hb); replace HO511 := zA (Kd.N_below (by (with_reducible repeat (first | apply Kd.N_alloc | apply Kd.N_drewN | apply Kd.N_drew)); exact HO511.out) hb); replace BK505 := xB BK505 hb; replace BK506 := xB BK506 hb; replace BK507 := xB BK507 hb; replace HB := xH HB hb; (try clear hb); (try clear hb2); (try clear hk); (try clear hi); have hcz19_0 := bc BK505 0; have hcz19_1 := bc BK505 1; have hfz19_0 := bf BK505 0; have hfz19_1 := bf BK505 1; have hcz20_0 := bc BK506 0; have hfz20_0 := bf BK506 0) | ((with_reducible refine gate_callee (f := 44) rfl ?_); refine gL (some 18) Try.func44 #[.agg #[.int .i64 a0_0, .slice A0_1 l0_1.length c0_1], .slice A1 l1.length c1] ?_; (with_reducible refine (impl_Moments_product.calls k a0_0 _ _ l0_1 _ _ l1 t513 t514 _ ?side1 ?side2 ?side3 ?side4 A6.out).mono ?_); (case side1 => exact uC ((Kd.C_below HR0_1.out HB.out))); (case side2 => exact HC0_1.out); (case side3 => exact uC ((Kd.V_reads' HO1.out).2.2)); (case side4 => exact (Kd.V_reads' HO1.out).2.1); rintro e w21 ⟨v515, rfl, ho0, hb⟩; refine ⟨_, rfl, ?_⟩; replace HO1 := zA (Kd.V_elder' (by (with_reducible repeat (first | apply Kd.V_alloc | apply Kd.V_drewN | apply Kd.V_drew)); exact HO1.out) (Kd.R_base ho0) hb); replace HO511 := zA (Kd.N_elder' (by (with_reducible repeat (first | apply Kd.N_alloc | apply Kd.N_drewN | apply Kd.N_drew)); exact HO511.out) (Kd.R_base ho0) hb); have HO516 := zA (Kd.R_lower (Kd.R_newM (M := fun k_ => (w.heap.size ≤ k_)) ho0 (below_size (uH HB.out)) (fun k_ h_ => h_)) (below_size (uH HB.out))); replace BK505 := xB BK505 hb; replace BK506 := xB BK506 hb; replace BK507 := xB BK507 hb; replace HB := xH HB hb; (try clear hb); (try clear hb2); (try clear hk); (try clear hi); (try clear ho0); have hcz22_0 := bc BK507 0; have hcz22_1 := bc BK507 1; have hfz22_0 := bf BK507 0; have hfz22_1 := bf BK507 1; obtain ⟨Ao23, co23, eo23⟩ := Kd.R_slice HO516.out; subst eo23))
 refine bodyPost_ret (results_ct rfl _ _ gb507 26 #[.int .i64 t513, .slice Ao23 t514.length co23] (0, 0) _ rfl (by (repeat refine up1 ?_); refine blk_put (cs := #[.int .i64 t513, .slice none 0 0]) ?_ 1 _ rfl; (repeat refine up1 ?_); refine blk_put (cs := #[.int .i64 0, .slice none 0 0]) ?_ 0 _ rfl; (repeat refine up1 ?_); exact BK507.out) Try.underlying26 rfl (by kernel_rfl)) rfl ?_
 exact ⟨_, by first | rfl | (simp [errW_none, errW_some] <;> rfl) | (simp [*, errW_none, errW_some] <;> rfl), uR (Kd.R_mono (Kd.R_far (p := ⟨gb507, 1, none⟩) (Kd.R_far (p := ⟨gb507, 0, none⟩) (Kd.R_types HO516.out BK507.out (by decide)) (fun _ hk => hk.2) (.int .i64 t513)) (fun _ hk => hk.2) (.slice Ao23 t514.length co23)) (fun _ hk => hk.1.1)), uH HB.out⟩
/-! ### impl_ShiftMoments: function 16 -/
def impl_ShiftMoments.f (k : Nat) (a0_0 : Int) (l0_1 : List Int) : Option (Int × List Int × Int) := (impl_momentsCode.f k a0_0 l0_1 (impl_always.f.getD false) ([] : List (List Int))).bind fun t557 => (if t557 = 0 then (if (l0_1.length : Int) = 1 then (some (0, ([] : List Int), 5)) else (if 1 ≤ (l0_1.length : Int) then ((impl_Moments_with.f a0_0 l0_1 (l0_1.drop 1)).bind fun bt559 => (some (bt559.1, bt559.2, 0))) else (none))) else (some (0, ([] : List Int), t557)))
set_option maxHeartbeats 8000000 in
set_option maxRecDepth 100000 in
theorem impl_ShiftMoments.calls (k : Nat) (a0_0 : Int) (A0_1 : Option Addr) (c0_1 : Nat) (l0_1 : List Int) (r1 : Int) (r2 : List Int) (r3 : Int) (w : World) (hr0_1 : Kd.C (Kd.int .i64) w A0_1 l0_1.length l0_1) (hc0_1 : l0_1.length ≤ c0_1) (h : impl_ShiftMoments.f k a0_0 l0_1 = some (r1, r2, r3)) :
  Calls Try.prog 16 #[.agg #[.int .i64 a0_0, .slice A0_1 l0_1.length c0_1]] w fun e w' => ∃ v1_ : Value, e = .returned (.tuple #[.agg #[.int .i64 r1, v1_], .int .i64 r3]) ∧ Kd.R (Kd.int .i64) 2 w' w.heap.size (fun _ => True) v1_ r2 ∧ Below w.heap.size w w' := by
 have hu26 := Try.underlying26
 have HR0_1 := zA hr0_1
 have HC0_1 := zA hc0_1
 clear hr0_1 hc0_1
 have HB := zA (Below.refl w.heap.size w)
 have H : ((impl_momentsCode.f k a0_0 l0_1 (impl_always.f.getD false) ([] : List (List Int))).bind fun t557 => (if t557 = 0 then (if (l0_1.length : Int) = 1 then (some (0, ([] : List Int), 5)) else (if 1 ≤ (l0_1.length : Int) then ((impl_Moments_with.f a0_0 l0_1 (l0_1.drop 1)).bind fun bt559 => (some (bt559.1, bt559.2, 0))) else (none))) else (some (0, ([] : List Int), t557)))) = some (r1, r2, r3) := h
 clear h
 replace H := Option.bind_eq_some_iff.mp H
 obtain ⟨t557, A20, H⟩ := H
 replace H : (if t557 = 0 then (if (l0_1.length : Int) = 1 then (some (0, ([] : List Int), 5)) else (if 1 ≤ (l0_1.length : Int) then ((impl_Moments_with.f a0_0 l0_1 (l0_1.drop 1)).bind fun bt559 => (some (bt559.1, bt559.2, 0))) else (none))) else (some (0, ([] : List Int), t557))) = some (r1, r2, r3) := H
 have A2 := zA A20
 clear A20
 by_cases c3 : t557 = 0
 rotate_left
 ·rw [if_neg c3] at H
  have c3b0 : (t557 == 0) = false := beq_eq_false_iff_ne.mpr c3
  have c3b1 : (t557 != 0) = true := bne_iff_ne.mpr c3
  simp only [Option.some.injEq, Prod.mk.injEq] at H
  obtain ⟨rfl, rfl, rfl⟩ := H
  go_enter Try.func16, Try.ntmps16
  go_wp2_with (first | ((with_reducible refine gate_dst (N := 1) rfl ?_); refine bx 1 #[.int .i64 a0_0, .slice A0_1 l0_1.length c0_1] 26 ?_; intro gb555 hg w26 hbox hb; have BK555 := zA (hbox); have GW555 := gq HB hg; have GE555 := gq HB hg; replace HB := xH HB hb; have := geI GE555; clear hb hbox hg) | ((with_reducible refine gate_dst (N := 2) rfl ?_); refine bx 2 #[.int .i64 0, .slice none 0 0] 26 ?_; intro gb556 hg w27 hbox hb; have BK556 := zA (hbox); have GW556 := gq HB hg; have GE556 := gq HB hg; replace HB := xH HB hb; have NB555_556 := zA ((by rw [hg]; exact neL BK555 : gb555 ≠ gb556)); have NB556_555 := zA ((by rw [hg]; exact neG BK555 : gb556 ≠ gb555)); replace BK555 := xB BK555 hb; have := geI GE556; clear hb hbox hg; have hnb28 := NB555_556.out; have hnc28 := NB556_555.out; have hcz29_0 := bc BK555 0; have hcz29_1 := bc BK555 1; have hfz29_0 := bf BK555 0; have hfz29_1 := bf BK555 1) | ((with_reducible refine gate_callee (f := 30) rfl ?_); refine gL (some 6) Try.func30 #[.agg #[.int .i64 a0_0, .slice A0_1 l0_1.length c0_1], (.func (.func 48) #[] #[]), .slice none 0 0] ?_; (refine (impl_momentsCode.calls k a0_0 _ _ l0_1 _ (impl_always.f.getD false) _ _ ([] : List (List Int)) t557 _ ?side1 ?side2 ?side3 ?side4 ?side5 A2.out).mono ?_); (case side1 => exact uC ((Kd.C_below HR0_1.out HB.out))); (case side2 => exact HC0_1.out); (case side3 => exact FnB.of Try.func48 (by kernel_rfl) rfl (fun W_ hW_ => calls_of_args (args' := #[]) (by simp) ((impl_always.calls  _ W_  rfl).mono fun e_ W2_ h_ => ⟨h_.1, h_.2.below⟩))); (case side4 => exact Kd.C_nil _ _); (case side5 => exact Nat.le_refl _); rintro e w30 ⟨rfl, hb⟩; refine ⟨_, rfl, ?_⟩; replace BK555 := xB BK555 hb; replace BK556 := xB BK556 hb; replace HB := xH HB hb; (try clear hb); (try clear hb2); (try clear hk); (try clear hi); have hcz31_0 := bc BK556 0; have hcz31_1 := bc BK556 1; have hfz31_0 := bf BK556 0; have hfz31_1 := bf BK556 1))
  refine bodyPost_ret (results_ct rfl _ _ gb556 26 #[.int .i64 0, .slice none 0 0] (0, 0) _ rfl (by (repeat refine up1 ?_); refine blk_put (cs := #[.int .i64 0, .slice none 0 0]) ?_ 1 _ rfl; (repeat refine up1 ?_); refine blk_put (cs := #[.int .i64 0, .slice none 0 0]) ?_ 0 _ rfl; (repeat refine up1 ?_); exact BK556.out) Try.underlying26 rfl (by kernel_rfl)) rfl ?_
  exact ⟨_, by first | rfl | (simp [errW_none, errW_some] <;> rfl) | (simp [*, errW_none, errW_some] <;> rfl), by first | exact Kd.R_nil _ _ _ _ _ | exact Kd.N_nil _ _ _ _ _ | exact Kd.V_nil _ _ _ _ _ | exact Kd.Q_nil _ _ _ _ _ | exact Kd.S_nil _ _ _ _ _, uH HB.out⟩

 rw [if_pos c3] at H
 have c3b0 : (t557 == 0) = true := beq_iff_eq.mpr c3
 have c3b1 : (t557 != 0) = false := bne_eq_false_iff_eq.mpr c3
 clear c3
 by_cases c4 : (l0_1.length : Int) = 1
 rotate_left
 ·rw [if_neg c4] at H
  have c4b0 : ((l0_1.length : Int) == 1) = false := beq_eq_false_iff_ne.mpr c4
  have c4b1 : ((l0_1.length : Int) != 1) = true := bne_iff_ne.mpr c4
  by_cases c12 : 1 ≤ (l0_1.length : Int)
  rotate_left
  ·rw [if_neg c12] at H
   exact absurd H (by simp)
  rw [if_pos c12] at H
  have c12b0 := eq_true c12
  have c12b1 : decide (1 ≤ (l0_1.length : Int)) = true := decide_eq_true c12
  clear c12
  replace H := Option.bind_eq_some_iff.mp H
  obtain ⟨⟨t559, t560⟩, A130, H⟩ := H
  replace H : (some (t559, t560, 0)) = some (r1, r2, r3) := H
  have A13 := zA A130
  clear A130
  simp only [Option.some.injEq, Prod.mk.injEq] at H
  obtain ⟨rfl, rfl, rfl⟩ := H
  go_enter Try.func16, Try.ntmps16
  try go_wp2_with (first | ((with_reducible refine gate_dst (N := 1) rfl ?_); refine bx 1 #[.int .i64 a0_0, .slice A0_1 l0_1.length c0_1] 26 ?_; intro gb555 hg w14 hbox hb; have BK555 := zA (hbox); have GW555 := gq HB hg; have GE555 := gq HB hg; replace HB := xH HB hb; have := geI GE555; clear hb hbox hg) | ((with_reducible refine gate_dst (N := 2) rfl ?_); refine bx 2 #[.int .i64 0, .slice none 0 0] 26 ?_; intro gb556 hg w15 hbox hb; have BK556 := zA (hbox); have GW556 := gq HB hg; have GE556 := gq HB hg; replace HB := xH HB hb; have NB555_556 := zA ((by rw [hg]; exact neL BK555 : gb555 ≠ gb556)); have NB556_555 := zA ((by rw [hg]; exact neG BK555 : gb556 ≠ gb555)); replace BK555 := xB BK555 hb; have := geI GE556; clear hb hbox hg; have hnb16 := NB555_556.out; have hnc16 := NB556_555.out; have hcz17_0 := bc BK555 0; have hcz17_1 := bc BK555 1; have hfz17_0 := bf BK555 0; have hfz17_1 := bf BK555 1) | ((with_reducible refine gate_callee (f := 30) rfl ?_); refine gL (some 6) Try.func30 #[.agg #[.int .i64 a0_0, .slice A0_1 l0_1.length c0_1], (.func (.func 48) #[] #[]), .slice none 0 0] ?_; (refine (impl_momentsCode.calls k a0_0 _ _ l0_1 _ (impl_always.f.getD false) _ _ ([] : List (List Int)) t557 _ ?side1 ?side2 ?side3 ?side4 ?side5 A2.out).mono ?_); (case side1 => exact uC ((Kd.C_below HR0_1.out HB.out))); (case side2 => exact HC0_1.out); (case side3 => exact FnB.of Try.func48 (by kernel_rfl) rfl (fun W_ hW_ => calls_of_args (args' := #[]) (by simp) ((impl_always.calls  _ W_  rfl).mono fun e_ W2_ h_ => ⟨h_.1, h_.2.below⟩))); (case side4 => exact Kd.C_nil _ _); (case side5 => exact Nat.le_refl _); rintro e w18 ⟨rfl, hb⟩; refine ⟨_, rfl, ?_⟩; replace BK555 := xB BK555 hb; replace BK556 := xB BK556 hb; replace HB := xH HB hb; (try clear hb); (try clear hb2); (try clear hk); (try clear hi); have hcz19_0 := bc BK555 0; have hcz19_1 := bc BK555 1; have hfz19_0 := bf BK555 0; have hfz19_1 := bf BK555 1))
  replace BK555 := zA (blk_drew BK555.out)
  replace BK556 := zA (blk_drew BK556.out)
  replace HB := zA (below_drew1 HB.out)
  obtain ⟨i021, hi021, _, hsz21, _⟩ := info_parts info2
  obtain ⟨A21, hcut21, hA21, hC21⟩ := print_drop_of (P := Try.prog) (Value.int .i64) 0 24 2 .i64 Try.underlying24 hi021 hsz21 A0_1 c0_1 l0_1 1 (by omega) (of_decide_eq_true (by first | (with_reducible assumption) | assumption)) HC0_1.out
  have HR558 := zA (Kd.C_of_reads (h1 := fun _ => rfl) (hA21 _ (Kd.reads_of_C HR0_1.out)))
  have HC558 := zA hC21
  clear hA21 hC21 hi021 hsz21
  refine start_ (n := 7) (S := fun w' => w'.cell? ⟨gb555, 0, none⟩ = some (.int .i64 a0_0) ∧ w'.cell? ⟨gb555, 1, none⟩ = some (.slice A0_1 l0_1.length c0_1)) (ds := []) #[false, false, false, false, false, false, false] (by kernel_rfl) rfl rfl ⟨bcu BK555 0, bcu BK555 1⟩ (fun hHeld => ?_)
  generalize w18.drew = w20 at BK555 BK556 HB HR558 hHeld ⊢
  refine pure_ (i := 1) (N := some 17) (v := ?_) (a' := ?_) (bl 7 2) rfl rfl (by kernel_rfl) (fun _ _ _ h => h) (Or.inl ⟨by rfl, ?_⟩) ?_ ?_
  rotate_left
  ·intro w'
   go_simp
   with_reducible rfl
  rotate_left
  ·simp only [Act.put, ls, lz, ln, i64_w, i32_w]
   rfl
  refine take_ (i := 0) (N := some 16) (v := ?_) (a' := ?_) (bl 7 3) rfl rfl (by kernel_rfl) (fun _ _ _ h => h) (Or.inl ⟨by rfl, ?_⟩) hHeld ?_ ?_
  rotate_left
  ·rintro w' ⟨s0, s1⟩
   go_simp
   with_reducible rfl
  rotate_left
  ·simp only [Act.put, ls, lz, ln, i64_w, i32_w]
   rfl
  refine take_ (i := 2) (N := some 18) (v := ?_) (a' := ?_) (bl 7 7) rfl rfl (by kernel_rfl) (fun _ _ _ h => h) (Or.inl ⟨by rfl, ?_⟩) hHeld ?_ ?_
  rotate_left
  ·rintro w' ⟨s0, s1⟩
   go_simp
   with_reducible rfl
  rotate_left
  ·simp only [Act.put, ls, lz, ln, i64_w, i32_w]
   rfl
  refine pure_ (i := 3) (N := some 19) (v := ?_) (a' := ?_) (bl 7 15) rfl rfl (by kernel_rfl) (fun _ _ _ h => h) (Or.inl ⟨by rfl, ?_⟩) ?_ ?_
  rotate_left
  ·intro w'
   go_simp
   with_reducible rfl
  rotate_left
  ·simp only [Act.put, ls, lz, ln, i64_w, i32_w]
   rfl
  refine one_ (i := 4) (N := some 20) (bl 7 31) rfl rfl (by kernel_rfl) (by decide) (fun K hK => ?_)
  refine goes_ Try.func49 (by kernel_rfl) rfl #[.agg #[.int .i64 a0_0, .slice A0_1 l0_1.length c0_1], .slice A21 (l0_1.drop 1).length (c0_1 - 1)] (by rfl) rfl rfl (by (try simp only [la, lb, lc]); first | done | (rw [show (l0_1.drop 1).length = (l0_1.length - 1) from List.length_drop] <;> rfl) | rfl | (simp only [ld, le]; rfl)) ?_
  with_reducible refine (impl_Moments_with.calls a0_0 _ _ l0_1 _ _ (l0_1.drop 1) t559 t560 _ ?side1 ?side2 ?side3 ?side4 A13.out).mono ?_
  (case side1 => exact uC ((Kd.C_below HR0_1.out HB.out)))
  (case side2 => exact HC0_1.out)
  (case side3 => exact uC ((Kd.C_below HR558.out HB.out)))
  (case side4 => exact HC558.out)
  rintro e w22 ⟨v561, rfl, ho0, hb⟩
  refine ⟨_, rfl, ?_⟩
  have HO562 := zA (Kd.R_lower ho0 (below_size (uH HB.out)))
  replace BK555 := xB BK555 hb
  replace BK556 := xB BK556 hb
  replace HB := xH HB hb
  (try clear hb); (try clear hb2); (try clear hk); (try clear hi); (try clear ho0)
  obtain ⟨Ao24, co24, eo24⟩ := Kd.R_slice HO562.out
  (first | subst eo24 | (injection eo24 with f1_ f2_ f3_; have f4_ := f1_.symm; have f5_ := f3_.symm; clear f1_ f2_ f3_; subst f4_; subst f5_))
  refine hK.out _ _ ⟨bcu BK555 0, bcu BK555 1⟩ (fun hHeld => ?_)
  clear hK K
  refine no_ 20 ?_
  refine one_ (i := 5) (N := none) (bl 7 63) rfl rfl (by kernel_rfl) (by decide) (fun K hK => ?_)
  have hs23 : w22.cell? ⟨gb556, 0, none⟩ = some (.int .i64 0) := (blk_cell BK556.out 0).trans rfl
  have hfs23 := bf BK556 0
  have hns23_0 := NB555_556.out; have hms23_0 := NB556_555.out
  have hs25 : w22.cell? ⟨gb556, 1, none⟩ = some (.slice none 0 0) := (blk_cell BK556.out 1).trans rfl
  have hfs25 := bf BK556 1
  have hns25_0 := NB555_556.out; have hms25_0 := NB556_555.out
  refine skip_ (w1 := ?_) (by rfl) rfl ?_ ?_
  rotate_left
  ·go_simp
   rfl
  refine hK.out _ _ ⟨((cell_far (p := ⟨gb556, _, none⟩) NB555_556.out _).trans (((cell_far (p := ⟨gb556, _, none⟩) NB555_556.out _).trans (hHeld.1)))), ((cell_far (p := ⟨gb556, _, none⟩) NB555_556.out _).trans (((cell_far (p := ⟨gb556, _, none⟩) NB555_556.out _).trans (hHeld.2))))⟩ (fun hHeld => ?_)
  clear hK K
  refine pure_ (i := 6) (N := some 3) (v := ?_) (a' := ?_) (bl 7 127) rfl rfl (by kernel_rfl) (fun _ _ _ h => h) (Or.inl ⟨by rfl, ?_⟩) ?_ ?_
  rotate_left
  ·intro w'
   go_simp
   with_reducible rfl
  rotate_left
  ·simp only [Act.put, ls, lz, ln, i64_w, i32_w]
   rfl
  refine done_ (by kernel_rfl) ?_
  try go_wp2
  refine bodyPost_ret (results_ct rfl _ _ gb556 26 #[.int .i64 t559, .slice Ao24 t560.length co24] (0, 0) _ rfl (by (repeat refine up1 ?_); refine blk_put (cs := #[.int .i64 t559, .slice none 0 0]) ?_ 1 _ rfl; (repeat refine up1 ?_); refine blk_put (cs := #[.int .i64 0, .slice none 0 0]) ?_ 0 _ rfl; (repeat refine up1 ?_); exact BK556.out) Try.underlying26 rfl (by kernel_rfl)) rfl ?_
  exact ⟨_, by first | rfl | (simp [errW_none, errW_some] <;> rfl) | (simp [*, errW_none, errW_some] <;> rfl), uR (Kd.R_mono (Kd.R_far (p := ⟨gb556, 1, none⟩) (Kd.R_far (p := ⟨gb556, 0, none⟩) (Kd.R_types HO562.out BK556.out (by decide)) (fun _ hk => hk.2) (.int .i64 t559)) (fun _ hk => hk.2) (.slice Ao24 t560.length co24)) (fun _ hk => trivial)), uH HB.out⟩
 rw [if_pos c4] at H
 have c4b0 : ((l0_1.length : Int) == 1) = true := beq_iff_eq.mpr c4
 have c4b1 : ((l0_1.length : Int) != 1) = false := bne_eq_false_iff_eq.mpr c4
 clear c4
 simp only [Option.some.injEq, Prod.mk.injEq] at H
 obtain ⟨rfl, rfl, rfl⟩ := H
 go_enter Try.func16, Try.ntmps16
 go_wp2_with (first | ((with_reducible refine gate_dst (N := 1) rfl ?_); refine bx 1 #[.int .i64 a0_0, .slice A0_1 l0_1.length c0_1] 26 ?_; intro gb555 hg w5 hbox hb; have BK555 := zA (hbox); have GW555 := gq HB hg; have GE555 := gq HB hg; replace HB := xH HB hb; have := geI GE555; clear hb hbox hg) | ((with_reducible refine gate_dst (N := 2) rfl ?_); refine bx 2 #[.int .i64 0, .slice none 0 0] 26 ?_; intro gb556 hg w6 hbox hb; have BK556 := zA (hbox); have GW556 := gq HB hg; have GE556 := gq HB hg; replace HB := xH HB hb; have NB555_556 := zA ((by rw [hg]; exact neL BK555 : gb555 ≠ gb556)); have NB556_555 := zA ((by rw [hg]; exact neG BK555 : gb556 ≠ gb555)); replace BK555 := xB BK555 hb; have := geI GE556; clear hb hbox hg; have hnb7 := NB555_556.out; have hnc7 := NB556_555.out; have hcz8_0 := bc BK555 0; have hcz8_1 := bc BK555 1; have hfz8_0 := bf BK555 0; have hfz8_1 := bf BK555 1) | ((with_reducible refine gate_callee (f := 30) rfl ?_); refine gL (some 6) Try.func30 #[.agg #[.int .i64 a0_0, .slice A0_1 l0_1.length c0_1], (.func (.func 48) #[] #[]), .slice none 0 0] ?_; (refine (impl_momentsCode.calls k a0_0 _ _ l0_1 _ (impl_always.f.getD false) _ _ ([] : List (List Int)) t557 _ ?side1 ?side2 ?side3 ?side4 ?side5 A2.out).mono ?_); (case side1 => exact uC ((Kd.C_below HR0_1.out HB.out))); (case side2 => exact HC0_1.out); (case side3 => exact FnB.of Try.func48 (by kernel_rfl) rfl (fun W_ hW_ => calls_of_args (args' := #[]) (by simp) ((impl_always.calls  _ W_  rfl).mono fun e_ W2_ h_ => ⟨h_.1, h_.2.below⟩))); (case side4 => exact Kd.C_nil _ _); (case side5 => exact Nat.le_refl _); rintro e w9 ⟨rfl, hb⟩; refine ⟨_, rfl, ?_⟩; replace BK555 := xB BK555 hb; replace BK556 := xB BK556 hb; replace HB := xH HB hb; (try clear hb); (try clear hb2); (try clear hk); (try clear hi); have hcz10_0 := bc BK555 0; have hcz10_1 := bc BK555 1; have hfz10_0 := bf BK555 0; have hfz10_1 := bf BK555 1; have hcz11_0 := bc BK556 0; have hcz11_1 := bc BK556 1; have hfz11_0 := bf BK556 0; have hfz11_1 := bf BK556 1))
 refine bodyPost_ret (results_ct rfl _ _ gb556 26 #[.int .i64 0, .slice none 0 0] (0, 0) _ rfl (by (repeat refine up1 ?_); refine blk_put (cs := #[.int .i64 0, .slice none 0 0]) ?_ 1 _ rfl; (repeat refine up1 ?_); refine blk_put (cs := #[.int .i64 0, .slice none 0 0]) ?_ 0 _ rfl; (repeat refine up1 ?_); exact BK556.out) Try.underlying26 rfl (by kernel_rfl)) rfl ?_
 exact ⟨_, by first | rfl | (simp [errW_none, errW_some] <;> rfl) | (simp [*, errW_none, errW_some] <;> rfl), by first | exact Kd.R_nil _ _ _ _ _ | exact Kd.N_nil _ _ _ _ _ | exact Kd.V_nil _ _ _ _ _ | exact Kd.Q_nil _ _ _ _ _ | exact Kd.S_nil _ _ _ _ _, uH HB.out⟩
/- Plain lemmas: rounds (Ev), wrapped sums, rests modulo p, lists read and written at an index. No program is in sight. -/
section
variable {α β : Type}
theorem Ev.pos {c : Prop} [Decidable c] {X Y : Nat → Option α} {r : α} (h : c) (e : Ev X r) : Ev (fun k => if c then X k else Y k) r := by
  simpa only [if_pos h] using e
theorem Ev.neg {c : Prop} [Decidable c] {X Y : Nat → Option α} {r : α} (h : ¬ c) (e : Ev Y r) : Ev (fun k => if c then X k else Y k) r := by
  simpa only [if_neg h] using e
theorem Ev.eq {x : Option α} {r : α} (h : x = some r) : Ev (fun _ => x) r := ⟨0, fun _ _ => h⟩
theorem Ev.some' {r s : α} (h : r = s) : Ev (fun _ => some r) s := ⟨0, fun _ _ => by rw [h]⟩
theorem Ev.bindE {x : Option α} {f : Nat → α → Option β} {a : α} {r : β} (h : x = some a) (e : Ev (fun n => f n a) r) : Ev (fun n => x.bind (f n)) r := by
  subst h; simpa using e
theorem Ev.cast {g : Nat → Option α} {r s : α} (h : Ev g r) (e : r = s) : Ev g s := e ▸ h
theorem Ev.fn {g : Nat → Option α} {r s : α} (h : Ev g r) (h' : Ev g s) : r = s := by
  obtain ⟨K, h⟩ := h
  obtain ⟨K', h'⟩ := h'
  have a := h (max K K') (by omega)
  have b := h' (max K K') (by omega)
  rw [a] at b
  exact Option.some.inj b
end

theorem ne_self {α : Type} [BEq α] [LawfulBEq α] (a : α) : ¬ ((a != a) = true) := by simp

theorem wrap_id {x : Int} (h0 : -9223372036854775808 ≤ x) (h1 : x < 9223372036854775808) : wrap64 x = x := by unfold wrap64; omega
theorem wsucc {i n : Nat} (h : i < n) (hn : n < 4611686018427387904) : wrap64 ((i : Int) + 1) = ((i + 1 : Nat) : Int) := by unfold wrap64; omega
theorem wadd {i j n : Nat} (h : i + j < n) (hn : n < 4611686018427387904) : wrap64 ((i : Int) + (j : Int)) = ((i + j : Nat) : Int) := by unfold wrap64; omega
theorem wpred {i : Nat} (h : 0 < i) (hn : i < 4611686018427387904) : wrap64 ((i : Int) - 1) = ((i - 1 : Nat) : Int) := by unfold wrap64; omega

theorem rd_nat (l : List Int) (i : Nat) : rd l (i : Int) = l.getD i 0 := by simp [rd]
theorem rdL_nat (l : List (List Int)) (i : Nat) : rd_L3 l (i : Int) = l.getD i [] := by simp [rd_L3]
theorem getD_mem {α : Type} {l : List α} {i : Nat} {d : α} (h : i < l.length) : l.getD i d ∈ l := by
  simp only [List.getD_eq_getElem?_getD, List.getElem?_eq_getElem h, Option.getD_some]; exact List.getElem_mem h
theorem toNat_nat (i : Nat) : ((i : Int)).toNat = i := rfl

/-- A length that is small. -/
abbrev Sm (n : Nat) : Prop := n ≤ 1048576

/-- Numbers modulo p. -/
def Nm (p : Int) (l : List Int) : Prop := ∀ x ∈ l, 0 ≤ x ∧ x < p
theorem Nm.nil (p : Int) : Nm p [] := fun x h => by cases h
theorem Nm.cons {p x : Int} {l : List Int} (h0 : 0 ≤ x) (h1 : x < p) (h : Nm p l) : Nm p (x :: l) := fun y hy => by
  rcases List.mem_cons.1 hy with rfl | hy
  · exact ⟨h0, h1⟩
  · exact h y hy
theorem Nm.append {p : Int} {l m : List Int} (h : Nm p l) (h' : Nm p m) : Nm p (l ++ m) := fun y hy => by
  rcases List.mem_append.1 hy with hy | hy
  · exact h y hy
  · exact h' y hy
theorem Nm.get {p : Int} {l : List Int} (h : Nm p l) {i : Nat} (hi : i < l.length) : 0 ≤ l.getD i 0 ∧ l.getD i 0 < p := h _ (getD_mem hi)
theorem Nm.getp {p : Int} {l : List Int} (h : Nm p l) (hp : 0 < p) (i : Nat) : 0 ≤ l.getD i 0 ∧ l.getD i 0 < p := by
  by_cases hi : i < l.length
  · exact h.get hi
  · rw [List.getD_eq_getElem?_getD, List.getElem?_eq_none (by omega)]; exact ⟨Int.le_refl _, hp⟩
theorem Nm.take {p : Int} {l : List Int} (h : Nm p l) (n : Nat) : Nm p (l.take n) := fun x hx => h x (List.mem_of_mem_take hx)
theorem Nm.drop {p : Int} {l : List Int} (h : Nm p l) (n : Nat) : Nm p (l.drop n) := fun x hx => h x (List.mem_of_mem_drop hx)
theorem Nm.set {p x : Int} {l : List Int} (h : Nm p l) (h0 : 0 ≤ x) (h1 : x < p) (i : Nat) : Nm p (l.set i x) := fun y hy => by
  rcases List.mem_or_eq_of_mem_set hy with hy | rfl
  · exact h y hy
  · exact ⟨h0, h1⟩
theorem Nm.zeros {p : Int} (hp : 0 < p) (n : Nat) : Nm p (List.replicate n 0) := fun x hx => by
  rw [(List.mem_replicate.1 hx).2]; exact ⟨Int.le_refl _, hp⟩
instance (p : Int) (l : List Int) : Decidable (Nm p l) := by unfold Nm; infer_instance

theorem wf64 {x : Int} (h : (Lit.int .i64 x).wf = true) : -9223372036854775808 ≤ x ∧ x ≤ 9223372036854775807 := by
  have h2 : IntKind.i64.min ≤ x ∧ x ≤ 9223372036854775807 := by simpa [Lit.wf] using h
  exact h2
/-- A modulus that the program may have (in its range; a prime or not). -/
structure Pm (p : Int) : Prop where
  two : 2 ≤ p
  top : p ≤ 10007
theorem Pm.pos {p : Int} (h : Pm p) : 0 < p := by have := h.two; omega
theorem Pm.ne {p : Int} (h : Pm p) : p ≠ 0 := by have := h.two; omega

theorem mulB {a b m n : Int} (ha : 0 ≤ a) (ha' : a ≤ m) (hb : 0 ≤ b) (hb' : b ≤ n) : 0 ≤ a * b ∧ a * b ≤ m * n :=
  ⟨Int.mul_nonneg ha hb, Int.mul_le_mul ha' hb' hb (by omega)⟩
/-- A product of two numbers modulo p. -/
theorem mulP {p a b : Int} (hp : Pm p) (ha : 0 ≤ a) (ha' : a < p) (hb : 0 ≤ b) (hb' : b < p) : 0 ≤ a * b ∧ a * b ≤ 100140049 := by
  have h1 := hp.top
  have h := mulB (m := 10007) (n := 10007) ha (by omega) hb (by omega)
  exact ⟨h.1, by omega⟩
theorem tmod_pos {a b : Int} (h : 0 ≤ a) : Int.tmod a b = a % b := Int.tmod_eq_emod_of_nonneg h
theorem emodB {p : Int} (hp : 0 < p) (x : Int) : 0 ≤ x % p ∧ x % p < p := ⟨Int.emod_nonneg _ (by omega), Int.emod_lt_of_pos _ hp⟩
/-- Go's '(x % p + p) % p' is the rest of x. -/
theorem go_mod {p x : Int} (hp : Pm p) : Int.tmod (wrap64 (Int.tmod x p + p)) p = x % p := by
  have h2 := hp.two
  have ht := hp.top
  have h := Int.tmod_eq_emod (a := x) (b := p)
  have hb := emodB hp.pos x
  have hn : ((p.natAbs : Nat) : Int) = p := by omega
  split at h
  · rw [h, Int.natCast_zero, wrap_id (by omega) (by omega), tmod_pos (by omega), show x % p - 0 + p = x % p + p from by omega, Int.add_emod_right, Int.emod_emod]
  · rw [h, hn, wrap_id (by omega) (by omega), tmod_pos (by omega), show x % p - p + p = x % p from by omega, Int.emod_emod]

/-- A list without noughts at its end. -/
def trim (l : List Int) : List Int := (l.reverse.dropWhile (· == 0)).reverse
theorem trim_nil : trim [] = [] := rfl
theorem trim_snoc_zero (l : List Int) : trim (l ++ [0]) = trim l := by simp [trim]
theorem trim_snoc (l : List Int) {x : Int} (h : x ≠ 0) : trim (l ++ [x]) = l ++ [x] := by simp [trim, h]
theorem snocInd {α : Type} {P : List α → Prop} (h0 : P []) (h1 : ∀ l x, P l → P (l ++ [x])) (l : List α) : P l := by
  have h : ∀ l : List α, P l.reverse := by
    intro l
    induction l with
    | nil => exact h0
    | cons x l ih => rw [List.reverse_cons]; exact h1 _ _ ih
  simpa using h l.reverse
theorem trim_sub (l : List Int) : ∃ n, l = trim l ++ List.replicate n 0 := by
  induction l using snocInd with
  | h0 => exact ⟨0, rfl⟩
  | h1 l x ih =>
    by_cases h : x = 0
    · subst h
      obtain ⟨n, hn⟩ := ih
      refine ⟨n + 1, ?_⟩
      rw [trim_snoc_zero, List.replicate_succ', ← List.append_assoc, ← hn]
    · exact ⟨0, by rw [trim_snoc l h]; simp⟩
/- Copies of lists; no condition. -/
theorem Sm0 : Sm ([] : List Int).length := by simp [Sm]
theorem Sm.take {l : List Int} (h : Sm l.length) (n : Nat) : Sm (l.take n).length := by unfold Sm at h ⊢; rw [List.length_take]; omega
theorem Sm.drop {l : List Int} (h : Sm l.length) (n : Nat) : Sm (l.drop n).length := by unfold Sm at h ⊢; rw [List.length_drop]; omega
theorem own_eq (l : List Int) (hl : Sm l.length) : spec_l01Own.f l = some l := by
  unfold spec_l01Own.f
  simp only [Option.bind_some, List.length_nil, List.nil_append]
  rw [if_pos (by unfold Sm at hl; omega)]
theorem clone_eq (l : List Int) (hl : Sm l.length) : slices_Clone_ints.f l = some l := by
  unfold slices_Clone_ints.f
  rw [if_pos (by unfold Sm at hl; omega)]
end Go.Proofs.Ytnpepkpogohcmaa.Pr
