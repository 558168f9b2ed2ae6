/- Texts of this session in one: what functions of the program compute, and plain facts of it, under the conditions that each theorem names. -/
import Derived.Test.YtokkabgkjhpecaaKC01
import Derived.Test.YtokkabgkjhpecaaKC03
namespace Go.Proofs.Ytokkabgkjhpecaa.Pr
open Go.RowKit Go.Proofs.YtokkabgkjhpecaaW.PrintWords Go.Proofs.YtokkabgkjhpecaaW.PrintLast Go.Proofs.YtokkabgkjhpecaaW.PrintMore
attribute [local go_sem] max2_int min2_int max_two min_two max_three min_three max_four min_four   -- for this text's walks alone
set_option linter.unusedVariables false
set_option linter.unusedSimpArgs false
/-! ### laws_markJacobi: function 36 -/
def laws_markJacobi.f (k : Nat) (a0_0 : Int) (l0_1 : List Int) (l0_2 : List Int) (a1 : Int) : Option (Int × List Int × List Int) := (laws_markInt64S.f k l0_1 a1).bind fun bt808 => ((laws_markInt64S.f k l0_2 bt808.1).bind fun bt810 => (some (bt810.1, bt808.2, bt810.2)))
theorem laws_markJacobi.mono : ∀ a0 a1 a2 a3 k, LeO (laws_markJacobi.f k a0 a1 a2 a3) (laws_markJacobi.f (k + 1) a0 a1 a2 a3) := by
 intro a0 a1 a2 a3 k
 unfold laws_markJacobi.f
 repeat' first
   | (with_reducible exact laws_markInt64S.mono _ _ _)
   | (with_reducible exact LeO.refl _)
   | (with_reducible exact LeO.none _)
   | (with_reducible refine LeO.ite ?_ ?_)
   | (with_reducible refine LeO.bind ?_ (fun _ => ?_))
   | exact laws_markInt64S.mono _ _ _
   | exact LeO.none _
   | refine LeO.ite ?_ ?_
   | refine LeO.bind ?_ (fun _ => ?_)
set_option maxHeartbeats 8000000 in
set_option maxRecDepth 100000 in
theorem laws_markJacobi.calls (k : Nat) (a0_0 : Int) (P0_1_ : Nat → Prop) (u9000_ : Value) (l0_1 : List Int) (P0_2_ : Nat → Prop) (u9001_ : Value) (l0_2 : List Int) (a1 : Int) (r1 : Int) (r2 : List Int) (r3 : List Int) (w0 w : World) (hB : Below w0.heap.size w0 w) (ho0_1 : Kd.R (Kd.int .i64) 2 w w0.heap.size P0_1_ u9000_ l0_1) (hp0_1_0_2 : ∀ k_, P0_1_ k_ → ¬ P0_2_ k_) (ho0_2 : Kd.R (Kd.int .i64) 2 w w0.heap.size P0_2_ u9001_ l0_2) (hp0_2_0_1 : ∀ k_, P0_2_ k_ → ¬ P0_1_ k_) (h : laws_markJacobi.f k a0_0 l0_1 l0_2 a1 = some (r1, r2, r3)) :
  Calls Try.prog 36 #[.agg #[.int .i64 a0_0, u9000_, u9001_], .int .i64 a1] w fun e w' => e = .returned (.int .i64 r1) ∧ Kd.R (Kd.int .i64) 2 w' w0.heap.size (fun k_ => ((P0_1_ k_ ∨ P0_2_ k_) ∨ w.heap.size ≤ k_)) u9000_ r2 ∧ Kd.R (Kd.int .i64) 2 w' w0.heap.size (fun k_ => ((P0_1_ k_ ∨ P0_2_ k_) ∨ w.heap.size ≤ k_)) u9001_ r3 ∧ Below w0.heap.size w0 w' ∧ Kept w w' (fun k_ => P0_1_ k_ ∨ P0_2_ k_) := by
 have hu46 := Try.underlying46
 have HO0_1 := zA (show Kd.R (Kd.int .i64) 2 w w0.heap.size (fun k_ => ((P0_1_ k_ ∨ P0_2_ k_) ∨ w.heap.size ≤ k_) ∧ some k_ ≠ (u9001_ : Value).ownBlock) u9000_ l0_1 from Kd.R_mono ho0_1 (fun k_ hk => ⟨(.inl (.inl hk)), fun e_ => hp0_1_0_2 k_ hk (ho0_2.1 k_ e_.symm)⟩))
 have HO0_2 := zA (show Kd.R (Kd.int .i64) 2 w w0.heap.size (fun k_ => ((P0_1_ k_ ∨ P0_2_ k_) ∨ w.heap.size ≤ k_) ∧ some k_ ≠ (u9000_ : Value).ownBlock) u9001_ l0_2 from Kd.R_mono ho0_2 (fun k_ hk => ⟨(.inl (.inr hk)), fun e_ => hp0_2_0_1 k_ hk (ho0_1.1 k_ e_.symm)⟩))
 have HK := zA (Kept.refl w (fun k_ => P0_1_ k_ ∨ P0_2_ k_))
 have HW0 := zA hB.size
 have HB := zA hB
 clear hB
 have H : ((laws_markInt64S.f k l0_1 a1).bind fun bt808 => ((laws_markInt64S.f k l0_2 bt808.1).bind fun bt810 => (some (bt810.1, bt808.2, bt810.2)))) = some (r1, r2, r3) := h
 clear h
 replace H := Option.bind_eq_some_iff.mp H
 obtain ⟨⟨t808, t809⟩, A30, H⟩ := H
 replace H : ((laws_markInt64S.f k l0_2 t808).bind fun bt810 => (some (bt810.1, t809, bt810.2))) = some (r1, r2, r3) := H
 have A3 := zA A30
 clear A30
 replace H := Option.bind_eq_some_iff.mp H
 obtain ⟨⟨t810, t811⟩, A40, H⟩ := H
 replace H : (some (t810, t809, t811)) = some (r1, r2, r3) := H
 have A4 := zA A40
 clear A40
 simp only [Option.some.injEq, Prod.mk.injEq] at H
 obtain ⟨rfl, rfl, rfl⟩ := H
 obtain ⟨Ao5, co5, eo5⟩ := Kd.R_slice HO0_1.out
 subst eo5
 obtain ⟨Ao6, co6, eo6⟩ := Kd.R_slice HO0_2.out
 subst eo6
 go_enter Try.func36, Try.ntmps36
 go_wp2_with (first | ((with_reducible refine gate_dst (N := 2) rfl ?_); refine bx 2 #[.int .i64 a0_0, .slice Ao5 l0_1.length co5, .slice Ao6 l0_2.length co6] 46 ?_; intro gb807 hg w7 hbox hb; replace HO0_1 := xR HO0_1 hb; replace HO0_2 := xR HO0_2 hb; have BK807 := zA (hbox); have GW807 := zA ((by rw [hg]; exact (by first | exact HK.out.1 | exact (show Kept w _ (fun k_ => P0_1_ k_ ∨ P0_2_ k_) from by repeat (first | (with_reducible first | exact HK.out | apply Kept.alloc | apply Kept.drewN | apply Kept.drew) | exact HK.out)).1) : w.heap.size ≤ gb807)); replace HK := zA (Kept.below (S := (fun k_ => P0_1_ k_ ∨ P0_2_ k_)) (by repeat (first | (with_reducible first | exact HK.out | apply Kept.alloc | apply Kept.drewN | apply Kept.drew) | exact HK.out)) hb); have GE807 := zA ((by rw [hg]; exact (below_size (uH HB.out)) : w0.heap.size ≤ gb807)); replace HB := xH HB hb; have := geI GE807; clear hb hbox hg; have hcz8_0 := bc BK807 0; have hcz8_1 := bc BK807 1; have hcz8_2 := bc BK807 2; have hfz8_0 := bf BK807 0; have hfz8_1 := bf BK807 1; have hfz8_2 := bf BK807 2) | ((with_reducible refine gate_callee (f := 41) rfl ?_); refine gL (some 8) Try.func41 #[.slice Ao5 l0_1.length co5, .int .i64 a1] ?_; (with_reducible refine (laws_markInt64S.calls k (fun k_ => some k_ = (.slice Ao5 l0_1.length co5 : Value).ownBlock) (.slice Ao5 l0_1.length co5) l0_1 a1 t808 t809 w0 _ ?side1 ?side2 A3.out).mono ?_); (case side1 => repeat (first | (with_reducible first | exact HB.out | apply below_alloc | apply pw_below_drewN | apply below_drew1 | refine below_set ?_ GE807.out) | exact HB.out)); (case side2 => exact Kd.R_tight rfl HO0_1.out); rintro e w9 ⟨rfl, hy0, hb, hkp⟩; refine ⟨_, rfl, ?_⟩; replace HO0_2 := zA (Kd.R_mono (ok' := fun k_ => ((P0_1_ k_ ∨ P0_2_ k_) ∨ w.heap.size ≤ k_) ∧ ax k_ (.slice Ao5 l0_1.length co5)) (Kd.R_keptB (HO0_2.out) hkp (fun k_ hk_ hs_ => (hk_.2) hs_)) (fun k_ hk_ => ⟨hk_.1.1, hk_.1.2⟩)); replace BK807 := zA (blk_kept (uB BK807.out) hkp (fun hs_ => (fun e_ => (Kd.R_ne HO0_1.out BK807.out (by decide)) e_) hs_)); replace HK := zA (Kept.then_ (S := (fun k_ => P0_1_ k_ ∨ P0_2_ k_)) (by repeat (first | (with_reducible first | exact HK.out | apply Kept.alloc | apply Kept.drewN | apply Kept.drew | refine Kept.setCell ?_ (.inr GW807.out) _) | exact HK.out)) hkp (fun k_ hs_ => (fun e_ => (HO0_1.out.1 k_ e_.symm).1) hs_)); replace HO0_1 := zA (Kd.R_reok rfl hy0 (fun k_ e_ => HO0_1.out.1 k_ e_)); replace HB := zA (hb); (try clear hb); (try clear hkp); (try clear hy0); have hcz10_0 := bc BK807 0; have hcz10_1 := bc BK807 1; have hcz10_2 := bc BK807 2; have hfz10_0 := bf BK807 0; have hfz10_1 := bf BK807 1; have hfz10_2 := bf BK807 2) | ((with_reducible refine gate_callee (f := 41) rfl ?_); refine gL (some 12) Try.func41 #[.slice Ao6 l0_2.length co6, .int .i64 t808] ?_; (with_reducible refine (laws_markInt64S.calls k (fun k_ => some k_ = (.slice Ao6 l0_2.length co6 : Value).ownBlock) (.slice Ao6 l0_2.length co6) l0_2 t808 t810 t811 w0 _ ?side1 ?side2 A4.out).mono ?_); (case side1 => repeat (first | (with_reducible first | exact HB.out | apply below_alloc | apply pw_below_drewN | apply below_drew1 | refine below_set ?_ GE807.out) | exact HB.out)); (case side2 => exact Kd.R_tight rfl HO0_2.out); rintro e w11 ⟨rfl, hy0, hb, hkp⟩; refine ⟨_, rfl, ?_⟩; replace HO0_1 := zA (Kd.R_mono (ok' := fun k_ => ((P0_1_ k_ ∨ P0_2_ k_) ∨ w.heap.size ≤ k_) ∧ ax k_ (.slice Ao6 l0_2.length co6)) (Kd.R_keptB (HO0_1.out) hkp (fun k_ hk_ hs_ => (hk_.2) hs_)) (fun k_ hk_ => ⟨hk_.1.1, hk_.1.2⟩)); replace BK807 := zA (blk_kept (uB BK807.out) hkp (fun hs_ => (fun e_ => (Kd.R_ne HO0_2.out BK807.out (by decide)) e_) hs_)); replace HK := zA (Kept.then_ (S := (fun k_ => P0_1_ k_ ∨ P0_2_ k_)) (by repeat (first | (with_reducible first | exact HK.out | apply Kept.alloc | apply Kept.drewN | apply Kept.drew | refine Kept.setCell ?_ (.inr GW807.out) _) | exact HK.out)) hkp (fun k_ hs_ => (fun e_ => (HO0_2.out.1 k_ e_.symm).1) hs_)); replace HO0_2 := zA (Kd.R_reok rfl hy0 (fun k_ e_ => HO0_2.out.1 k_ e_)); replace HB := zA (hb); (try clear hb); (try clear hkp); (try clear hy0)))
 go_ret
 exact ⟨by first | rfl | (simp [errW_none, errW_some] <;> rfl) | (simp [*, errW_none, errW_some] <;> rfl), uR (Kd.R_mono HO0_1.out (fun _ hk => hk.1)), uR (Kd.R_mono HO0_2.out (fun _ hk => hk.1)), uH HB.out, by repeat (first | (with_reducible first | exact HK.out | apply Kept.alloc | apply Kept.drewN | apply Kept.drew | refine Kept.setCell ?_ (.inr GW807.out) _) | exact HK.out)⟩
/-! ### laws_szInt64S: function 56 -/
def laws_szInt64S.f (l0 : List Int) (a1 : Int) : Option (Int) := if (wrap64 (a1 - (l0.length : Int))) < 0 then (some (-1)) else (some (wrap64 (a1 - (l0.length : Int))))
set_option maxHeartbeats 8000000 in
set_option maxRecDepth 100000 in
theorem laws_szInt64S.calls (A0 : Option Addr) (c0 : Nat) (l0 : List Int) (a1 : Int) (r : Int) (w : World) (hr0 : Kd.C (Kd.int .i64) w A0 l0.length l0) (hc0 : l0.length ≤ c0) (h : laws_szInt64S.f l0 a1 = some r) :
  Calls Try.prog 56 #[.slice A0 l0.length c0, .int .i64 a1] w fun e w' => e = .returned (.int .i64 r) ∧ Drawn0 w w' := by
 have HR0 := zA hr0
 have HC0 := zA hc0
 clear hr0 hc0
 have H : (if (wrap64 (a1 - (l0.length : Int))) < 0 then (some (-1)) else (some (wrap64 (a1 - (l0.length : Int))))) = some r := h
 clear h
 by_cases c3 : (wrap64 (a1 - (l0.length : Int))) < 0
 rotate_left
 ·rw [if_neg c3] at H
  have c3b0 : decide ((wrap64 (a1 - (l0.length : Int))) < 0) = false := decide_eq_false c3
  clear c3
  obtain rfl := Option.some.inj H
  go_enter Try.func56, Try.ntmps56
  go_wp2
  go_ret
  exact ⟨by first | rfl | (simp; done) | (simp [*]; done), by repeat (first | exact Drawn0.refl _ | apply Drawn0.step)⟩

 rw [if_pos c3] at H
 have c3b0 : decide ((wrap64 (a1 - (l0.length : Int))) < 0) = true := decide_eq_true c3
 clear c3
 obtain rfl := Option.some.inj H
 go_enter Try.func56, Try.ntmps56
 go_wp2
 go_ret
 exact ⟨by first | rfl | (simp; done) | (simp [*]; done), by repeat (first | exact Drawn0.refl _ | apply Drawn0.step)⟩
/-! ### laws_szJacobi: function 27 -/
def laws_szJacobi.f (a0_0 : Int) (l0_1 : List Int) (l0_2 : List Int) (a1 : Int) : Option (Int) := (laws_szInt64S.f l0_1 a1).bind fun t377 => (if t377 < 0 then (some (-1)) else ((laws_szInt64S.f l0_2 t377).bind fun t378 => (if t378 < 0 then (some (-1)) else (some t378))))
set_option maxHeartbeats 8000000 in
set_option maxRecDepth 100000 in
theorem laws_szJacobi.calls (a0_0 : Int) (A0_1 : Option Addr) (c0_1 : Nat) (l0_1 : List Int) (A0_2 : Option Addr) (c0_2 : Nat) (l0_2 : List Int) (a1 : Int) (r : Int) (w : World) (hr0_1 : Kd.C (Kd.int .i64) w A0_1 l0_1.length l0_1) (hc0_1 : l0_1.length ≤ c0_1) (hr0_2 : Kd.C (Kd.int .i64) w A0_2 l0_2.length l0_2) (hc0_2 : l0_2.length ≤ c0_2) (h : laws_szJacobi.f a0_0 l0_1 l0_2 a1 = some r) :
  Calls Try.prog 27 #[.agg #[.int .i64 a0_0, .slice A0_1 l0_1.length c0_1, .slice A0_2 l0_2.length c0_2], .int .i64 a1] w fun e w' => e = .returned (.int .i64 r) ∧ Below w.heap.size w w' := by
 have hu43 := Try.underlying43
 have HR0_1 := zA hr0_1
 have HC0_1 := zA hc0_1
 clear hr0_1 hc0_1
 have HR0_2 := zA hr0_2
 have HC0_2 := zA hc0_2
 clear hr0_2 hc0_2
 have HB := zA (Below.refl w.heap.size w)
 have H : ((laws_szInt64S.f l0_1 a1).bind fun t377 => (if t377 < 0 then (some (-1)) else ((laws_szInt64S.f l0_2 t377).bind fun t378 => (if t378 < 0 then (some (-1)) else (some t378))))) = some r := h
 clear h
 replace H := Option.bind_eq_some_iff.mp H
 obtain ⟨t377, A30, H⟩ := H
 replace H : (if t377 < 0 then (some (-1)) else ((laws_szInt64S.f l0_2 t377).bind fun t378 => (if t378 < 0 then (some (-1)) else (some t378)))) = some r := H
 have A3 := zA A30
 clear A30
 by_cases c4 : t377 < 0
 rotate_left
 ·rw [if_neg c4] at H
  have c4b0 : decide (t377 < 0) = false := decide_eq_false c4
  clear c4
  replace H := Option.bind_eq_some_iff.mp H
  obtain ⟨t378, A70, H⟩ := H
  replace H : (if t378 < 0 then (some (-1)) else (some t378)) = some r := H
  have A7 := zA A70
  clear A70
  by_cases c8 : t378 < 0
  rotate_left
  ·rw [if_neg c8] at H
   have c8b0 : decide (t378 < 0) = false := decide_eq_false c8
   clear c8
   obtain rfl := Option.some.inj H
   go_enter Try.func27, Try.ntmps27
   go_wp2_with (first | ((with_reducible refine gate_dst (N := 2) rfl ?_); refine bx 2 #[.int .i64 a0_0, .slice A0_1 l0_1.length c0_1, .slice A0_2 l0_2.length c0_2] 43 ?_; intro gb376 hg w11 hbox hb; have BK376 := zA (hbox); have GW376 := gq HB hg; have GE376 := gq HB hg; replace HB := xH HB hb; have := geI GE376; clear hb hbox hg; have hcz12_0 := bc BK376 0; have hcz12_1 := bc BK376 1; have hcz12_2 := bc BK376 2; have hfz12_0 := bf BK376 0; have hfz12_1 := bf BK376 1; have hfz12_2 := bf BK376 2) | ((with_reducible refine gate_callee (f := 56) rfl ?_); refine gL (some 8) Try.func56 #[.slice A0_1 l0_1.length c0_1, .int .i64 a1] ?_; (with_reducible refine (laws_szInt64S.calls _ _ l0_1 a1 t377 _ ?side1 ?side2 A3.out).mono ?_); (case side1 => exact uC ((Kd.C_below HR0_1.out HB.out))); (case side2 => exact HC0_1.out); rintro e w' ⟨rfl, ⟨nd, rfl⟩⟩; refine ⟨_, rfl, ?_⟩) | ((with_reducible refine gate_callee (f := 56) rfl ?_); refine gL (some 14) Try.func56 #[.slice A0_2 l0_2.length c0_2, .int .i64 t377] ?_; (with_reducible refine (laws_szInt64S.calls _ _ l0_2 t377 t378 _ ?side1 ?side2 A7.out).mono ?_); (case side1 => repeat (first | exact (Kd.C_below HR0_2.out (uH HB.out)) | (with_reducible refine Kd.C_alloc ?_ _) | (with_reducible refine Kd.C_drewN ?_ _) | (with_reducible refine Kd.C_drew ?_))); (case side2 => exact HC0_2.out); rintro e w' ⟨rfl, ⟨nd, rfl⟩⟩; refine ⟨_, rfl, ?_⟩))
   go_ret
   exact ⟨by first | rfl | (simp [errW_none, errW_some] <;> rfl) | (simp [*, errW_none, errW_some] <;> rfl), uH HB.out⟩

  rw [if_pos c8] at H
  have c8b0 : decide (t378 < 0) = true := decide_eq_true c8
  clear c8
  obtain rfl := Option.some.inj H
  go_enter Try.func27, Try.ntmps27
  go_wp2_with (first | ((with_reducible refine gate_dst (N := 2) rfl ?_); refine bx 2 #[.int .i64 a0_0, .slice A0_1 l0_1.length c0_1, .slice A0_2 l0_2.length c0_2] 43 ?_; intro gb376 hg w9 hbox hb; have BK376 := zA (hbox); have GW376 := gq HB hg; have GE376 := gq HB hg; replace HB := xH HB hb; have := geI GE376; clear hb hbox hg; have hcz10_0 := bc BK376 0; have hcz10_1 := bc BK376 1; have hcz10_2 := bc BK376 2; have hfz10_0 := bf BK376 0; have hfz10_1 := bf BK376 1; have hfz10_2 := bf BK376 2) | ((with_reducible refine gate_callee (f := 56) rfl ?_); refine gL (some 8) Try.func56 #[.slice A0_1 l0_1.length c0_1, .int .i64 a1] ?_; (with_reducible refine (laws_szInt64S.calls _ _ l0_1 a1 t377 _ ?side1 ?side2 A3.out).mono ?_); (case side1 => exact uC ((Kd.C_below HR0_1.out HB.out))); (case side2 => exact HC0_1.out); rintro e w' ⟨rfl, ⟨nd, rfl⟩⟩; refine ⟨_, rfl, ?_⟩) | ((with_reducible refine gate_callee (f := 56) rfl ?_); refine gL (some 14) Try.func56 #[.slice A0_2 l0_2.length c0_2, .int .i64 t377] ?_; (with_reducible refine (laws_szInt64S.calls _ _ l0_2 t377 t378 _ ?side1 ?side2 A7.out).mono ?_); (case side1 => repeat (first | exact (Kd.C_below HR0_2.out (uH HB.out)) | (with_reducible refine Kd.C_alloc ?_ _) | (with_reducible refine Kd.C_drewN ?_ _) | (with_reducible refine Kd.C_drew ?_))); (case side2 => exact HC0_2.out); rintro e w' ⟨rfl, ⟨nd, rfl⟩⟩; refine ⟨_, rfl, ?_⟩))
  go_ret
  exact ⟨by first | rfl | (simp [errW_none, errW_some] <;> rfl) | (simp [*, errW_none, errW_some] <;> rfl), uH HB.out⟩
 rw [if_pos c4] at H
 have c4b0 : decide (t377 < 0) = true := decide_eq_true c4
 clear c4
 obtain rfl := Option.some.inj H
 go_enter Try.func27, Try.ntmps27
 go_wp2_with (first | ((with_reducible refine gate_dst (N := 2) rfl ?_); refine bx 2 #[.int .i64 a0_0, .slice A0_1 l0_1.length c0_1, .slice A0_2 l0_2.length c0_2] 43 ?_; intro gb376 hg w5 hbox hb; have BK376 := zA (hbox); have GW376 := gq HB hg; have GE376 := gq HB hg; replace HB := xH HB hb; have := geI GE376; clear hb hbox hg; have hcz6_0 := bc BK376 0; have hcz6_1 := bc BK376 1; have hcz6_2 := bc BK376 2; have hfz6_0 := bf BK376 0; have hfz6_1 := bf BK376 1; have hfz6_2 := bf BK376 2) | ((with_reducible refine gate_callee (f := 56) rfl ?_); refine gL (some 8) Try.func56 #[.slice A0_1 l0_1.length c0_1, .int .i64 a1] ?_; (with_reducible refine (laws_szInt64S.calls _ _ l0_1 a1 t377 _ ?side1 ?side2 A3.out).mono ?_); (case side1 => exact uC ((Kd.C_below HR0_1.out HB.out))); (case side2 => exact HC0_1.out); rintro e w' ⟨rfl, ⟨nd, rfl⟩⟩; refine ⟨_, rfl, ?_⟩))
 go_ret
 exact ⟨by first | rfl | (simp [errW_none, errW_some] <;> rfl) | (simp [*, errW_none, errW_some] <;> rfl), uH HB.out⟩
/-! ### laws_toInt64S: function 20 -/
def laws_toInt64S.l0 : Nat → List Int → List Int → Int → Option (List Int)
 | 0, _, _, _ => none
 | k + 1, x0, x3, x4 => if x4 < (x0.length : Int) then (if 0 ≤ x4 then (if x4 < (x3.length : Int) then (laws_toInt64S.l0 k x0 (x3.set (x4 : Int).toNat (rd x0 x4)) (wrap64 (x4 + 1))) else (none)) else (none)) else (some x3)
def laws_toInt64S.f (k : Nat) (l0 : List Int) : Option (List Int) := if 0 ≤ (l0.length : Int) then (if ((l0.length : Int) : Int).toNat ≤ 35184372088832 then (laws_toInt64S.l0 k l0 (List.replicate ((l0.length : Int) : Int).toNat 0) 0) else (none)) else (none)
theorem laws_toInt64S.mono_l : ∀ k, (∀ y0 y1 y2, LeO (laws_toInt64S.l0 k y0 y1 y2) (laws_toInt64S.l0 (k + 1) y0 y1 y2))
 | 0 => fun _ _ _ r h => by simp [laws_toInt64S.l0] at h
 | k + 1 => by
  have ih0 := laws_toInt64S.mono_l k
  ·intro y0 y1 y2
   unfold laws_toInt64S.l0
   repeat' first
   | (with_reducible exact ih0 _ _ _)
   | (with_reducible exact LeO.refl _)
   | (with_reducible exact LeO.none _)
   | (with_reducible refine LeO.ite ?_ ?_)
   | (with_reducible refine LeO.bind ?_ (fun _ => ?_))
   | exact ih0 _ _ _
   | exact LeO.none _
   | refine LeO.ite ?_ ?_
   | refine LeO.bind ?_ (fun _ => ?_)
theorem laws_toInt64S.mono : ∀ a0 k, LeO (laws_toInt64S.f k a0) (laws_toInt64S.f (k + 1) a0) := by
 intro a0 k
 have ih0 := laws_toInt64S.mono_l k
 unfold laws_toInt64S.f
 repeat' first
   | (with_reducible exact ih0 _ _ _)
   | (with_reducible exact LeO.refl _)
   | (with_reducible exact LeO.none _)
   | (with_reducible refine LeO.ite ?_ ?_)
   | (with_reducible refine LeO.bind ?_ (fun _ => ?_))
   | exact ih0 _ _ _
   | exact LeO.none _
   | refine LeO.ite ?_ ?_
   | refine LeO.bind ?_ (fun _ => ?_)
set_option maxHeartbeats 8000000 in
set_option maxRecDepth 100000 in
theorem laws_toInt64S.calls (k : Nat) (A0 : Option Addr) (c0 : Nat) (l0 : List Int) (r : List Int) (w : World) (hr0 : Kd.C (Kd.int .i64) w A0 l0.length l0) (hc0 : l0.length ≤ c0) (h : laws_toInt64S.f k l0 = some r) :
  Calls Try.prog 20 #[.slice A0 l0.length c0] w fun e w' => ∃ v0_ : Value, e = .returned (v0_) ∧ Kd.R (Kd.int .i64) 2 w' w.heap.size (fun _ => True) v0_ r ∧ Below w.heap.size w w' := by
 have HR0 := zA hr0
 have HC0 := zA hc0
 clear hr0 hc0
 have HB := zA (Below.refl w.heap.size w)
 have H : (if 0 ≤ (l0.length : Int) then (if ((l0.length : Int) : Int).toNat ≤ 35184372088832 then (laws_toInt64S.l0 k l0 (List.replicate ((l0.length : Int) : Int).toNat 0) 0) else (none)) else (none)) = some r := h
 clear h
 by_cases c2 : 0 ≤ (l0.length : Int)
 rotate_left
 ·rw [if_neg c2] at H
  exact absurd H (by simp)

 rw [if_pos c2] at H
 have c2b0 := eq_true c2
 have c2b1 : decide (0 ≤ (l0.length : Int)) = true := decide_eq_true c2
 clear c2
 by_cases c3 : ((l0.length : Int) : Int).toNat ≤ 35184372088832
 rotate_left
 ·rw [if_neg c3] at H
  exact absurd H (by simp)
 rw [if_pos c3] at H
 have c3b0 := eq_true c3
 have c3b1 : decide (((l0.length : Int) : Int).toNat ≤ 35184372088832) = true := decide_eq_true c3
 clear c3
 obtain ⟨y139, hy139⟩ : ∃ y_ : List Int, y_ = (List.replicate ((l0.length : Int) : Int).toNat 0) := ⟨_, rfl⟩
 replace H : (laws_toInt64S.l0 k l0 y139 0) = some r := by first | (rw [hy139]; exact H) | exact H
 have Ny139 := zA hy139
 clear hy139
 have H' := zA H
 clear H
 go_enter Try.func20, Try.ntmps20
 go_wp2_with (first | ((with_reducible refine gate_dst (N := 7) rfl ?_); refine Kd.R_make (Kd.int .i64) _ 2 rfl (N := 7) rfl 22 _ _ rfl (l0.length : Int) rfl rfl Try.underlying22 (.int .i64 0) 8 info2 rfl (by decide) (by omega) 0 (ok := fun _ => True) (okp := fun _ => True) rfl (fun _ hk => hk) trivial (of_decide_eq_true (by first | (with_reducible assumption) | assumption)) (Nat.le_trans (Nat.mul_le_mul_right _ (of_decide_eq_true (by first | (with_reducible assumption) | assumption) : (l0.length : Int).toNat ≤ 35184372088832)) (by omega)) (Below.refl _ _) (Nat.le_refl _) ?_; intro v140 w4 ho5 hb hg_ hnew_; clear hg_ hnew_; (first | rw [← Ny139.out] at ho5 | (simp only [Int.reduceToNat] at ho5; rw [← Ny139.out] at ho5)); have HO141 := zA (Kd.R_lower ho5 (below_size (uH HB.out))); replace HB := xH HB hb; clear hb ho5))
 go_loopg [4] k (fun kq v4 w' => ∃ (x3_1 : List Int) (x4_1 : Int), v4 = .int .i64 x4_1 ∧ Aside0 (laws_toInt64S.l0 kq l0 x3_1 x4_1 = some r) ∧ Aside0 (kq ≤ k) ∧ Aside0 (Kd.R (Kd.int .i64) 2 w' w.heap.size (fun _ => True) v140 x3_1) ∧ Aside0 (Below w.heap.size w w'))
 case atStart => exact ⟨(y139), (0), (by first | rfl | (simp; done) | (simp [*]; done)), H', ⟨Nat.le_refl _⟩, ⟨uR HO141.out⟩, ⟨uH HB.out⟩⟩
 case round =>
  clear H'
  (try clear c2);(try clear c2b0);(try clear c2b1);(try clear p2);(try clear c3);(try clear c3b0);(try clear c3b1)
  obtain ⟨x3_1, x4_1, rfl, HA, HK1, HO_3, HB⟩ := hrel
  cases gk with
  | zero => exact absurd HA.out (by simp [laws_toInt64S.l0])
  | succ k1 =>
   have H := HA.out
   clear HA
   simp only [laws_toInt64S.l0] at H
   by_cases c6 : x4_1 < (l0.length : Int)
   rotate_left
   ·rw [if_neg c6] at H
    have c6b0 : decide (x4_1 < (l0.length : Int)) = false := decide_eq_false c6
    clear c6
    obtain rfl := Option.some.inj H
    go_wp2
    go_ret
    exact ⟨_, by first | rfl | (simp [errW_none, errW_some] <;> rfl) | (simp [*, errW_none, errW_some] <;> rfl), uR HO_3.out, uH HB.out⟩
   rw [if_pos c6] at H
   have c6b0 : decide (x4_1 < (l0.length : Int)) = true := decide_eq_true c6
   clear c6
   by_cases c7 : 0 ≤ x4_1
   rotate_left
   ·rw [if_neg c7] at H
    exact absurd H (by simp)
   rw [if_pos c7] at H
   have c7b0 : decide (0 ≤ x4_1) = true := decide_eq_true c7
   clear c7
   by_cases c8 : x4_1 < (x3_1.length : Int)
   rotate_left
   ·rw [if_neg c8] at H
    exact absurd H (by simp)
   rw [if_pos c8] at H
   have c8b0 : decide (x4_1 < (x3_1.length : Int)) = true := decide_eq_true c8
   clear c8
   obtain ⟨y143, hy143⟩ : ∃ y_ : List Int, y_ = (x3_1.set (x4_1 : Int).toNat (rd l0 x4_1)) := ⟨_, rfl⟩
   replace H : (laws_toInt64S.l0 k1 l0 y143 (wrap64 (x4_1 + 1))) = some r := by first | (rw [hy143]; exact H) | exact H
   have Ny143 := zA hy143
   clear hy143
   have H' := zA H
   clear H
   have p142 : 0 ≤ (x4_1 : Int) := of_decide_eq_true (by first | (with_reducible assumption) | assumption)
   have q142 : x4_1 < (l0.length : Int) := of_decide_eq_true (by first | (with_reducible assumption) | assumption)
   obtain ⟨ad142, e142, hx142_0⟩ := Kd.at_int HR0.out x4_1 p142 q142
   cases e142
   replace hx142_0 := hc HB hx142_0
   replace p142 := eq_true p142
   replace q142 := eq_true q142
   have p9 : 0 ≤ (x4_1 : Int) := of_decide_eq_true (by first | (with_reducible assumption) | assumption)
   have q9 : (x4_1 : Int) < ((x3_1.length : Int) : Int) := of_decide_eq_true (by first | (with_reducible assumption) | assumption)
   obtain ⟨go9, co9, eo9, gb9, gl9, cl9, HG9⟩ := Kd.R_form HO_3.out (by omega)
   (first | cases eo9 | (injection eo9 with ea_ en_ ec_; (first | subst ea_ | (injection ea_ with ea_; subst ea_)); subst ec_; clear en_))
   have GB9 := zA gb9; have := geI GB9
   have GG9 := zA HG9
   clear gb9 gl9 HG9
   obtain ⟨hx9_0, hf9_0⟩ := Kd.R_celln 0 HO_3.out (x4_1 : Int) p9 q9
   replace p9 := eq_true p9
   replace q9 := eq_true q9
   have HP10 := Kd.R_putg HO_3.out (x4_1 : Int) (rd l0 x4_1)
   go_wp2_with (first | ((with_reducible refine gate_store (t := 2) (p := 20) rfl ?_); refine store_event (t := 2) (p := 20) (v := ?vo_w11) (w1 := (wr.setCell ⟨go9, (x4_1 : Int).toNat, none⟩ (.int .i64 (rd l0 x4_1)))) ?hg ?ho ?hn ?hr ?_; (case ho => rfl); (case hg => rfl); (case hn => rfl); (case hr => first | (go_simp; done) | (go_simp; rfl)); intro w11 hw; have hg : wr.grownBy w11 (some go9) := (by rw [hw]; exact HP10.2); have hp_ : Kd.R (Kd.int .i64) 2 w11 w.heap.size (fun _ => True) (.slice (some ⟨go9, 0, none⟩) x3_1.length co9) y143 := (by rw [hw, Ny143.out]; exact HP10.1); clear HP10; replace HO_3 := zA (hp_); replace HB := zA ((by rw [hw]; exact below_set (HB.out) GB9.out : Below w.heap.size w w11)); clear hg hw hp_))
   go_roundg k1
   case measure => have := HK1.out; omega
   case rel => exact ⟨(y143), (wrap64 (x4_1 + 1)), (by first | rfl | (simp; done) | (simp [*]; done)), H', ⟨by have := HK1.out; omega⟩, ⟨uR HO_3.out⟩, ⟨uH HB.out⟩⟩
/-! ### laws_toJacobi: function 29 -/
def laws_toJacobi.f (k : Nat) (a0_0 : Int) (l0_1 : List Int) (l0_2 : List Int) : Option (Int × List Int × List Int) := (laws_toInt64S.f k l0_1).bind fun t461 => ((laws_toInt64S.f k l0_2).bind fun t464 => (some (a0_0, t461, t464)))
theorem laws_toJacobi.mono : ∀ a0 a1 a2 k, LeO (laws_toJacobi.f k a0 a1 a2) (laws_toJacobi.f (k + 1) a0 a1 a2) := by
 intro a0 a1 a2 k
 unfold laws_toJacobi.f
 repeat' first
   | (with_reducible exact laws_toInt64S.mono _ _)
   | (with_reducible exact LeO.refl _)
   | (with_reducible exact LeO.none _)
   | (with_reducible refine LeO.ite ?_ ?_)
   | (with_reducible refine LeO.bind ?_ (fun _ => ?_))
   | exact laws_toInt64S.mono _ _
   | exact LeO.none _
   | refine LeO.ite ?_ ?_
   | refine LeO.bind ?_ (fun _ => ?_)
set_option maxHeartbeats 8000000 in
set_option maxRecDepth 100000 in
theorem laws_toJacobi.calls (k : Nat) (a0_0 : Int) (A0_1 : Option Addr) (c0_1 : Nat) (l0_1 : List Int) (A0_2 : Option Addr) (c0_2 : Nat) (l0_2 : List Int) (r1 : Int) (r2 : List Int) (r3 : List Int) (w : World) (hr0_1 : Kd.C (Kd.int .i64) w A0_1 l0_1.length l0_1) (hc0_1 : l0_1.length ≤ c0_1) (hr0_2 : Kd.C (Kd.int .i64) w A0_2 l0_2.length l0_2) (hc0_2 : l0_2.length ≤ c0_2) (h : laws_toJacobi.f k a0_0 l0_1 l0_2 = some (r1, r2, r3)) :
  Calls Try.prog 29 #[.agg #[.int .i64 a0_0, .slice A0_1 l0_1.length c0_1, .slice A0_2 l0_2.length c0_2]] w fun e w' => ∃ v1_ v2_ : Value, e = .returned (.agg #[.int .i64 r1, v1_, v2_]) ∧ Kd.R (Kd.int .i64) 2 w' w.heap.size (fun k_ => some k_ ≠ (v2_ : Value).ownBlock) v1_ r2 ∧ Kd.R (Kd.int .i64) 2 w' w.heap.size (fun k_ => some k_ ≠ (v1_ : Value).ownBlock) v2_ r3 ∧ Below w.heap.size w w' := by
 have hu43 := Try.underlying43
 have hu46 := Try.underlying46
 have HR0_1 := zA hr0_1
 have HC0_1 := zA hc0_1
 clear hr0_1 hc0_1
 have HR0_2 := zA hr0_2
 have HC0_2 := zA hc0_2
 clear hr0_2 hc0_2
 have HB := zA (Below.refl w.heap.size w)
 have H : ((laws_toInt64S.f k l0_1).bind fun t461 => ((laws_toInt64S.f k l0_2).bind fun t464 => (some (a0_0, t461, t464)))) = some (r1, r2, r3) := h
 clear h
 replace H := Option.bind_eq_some_iff.mp H
 obtain ⟨t461, A20, H⟩ := H
 replace H : ((laws_toInt64S.f k l0_2).bind fun t464 => (some (a0_0, t461, t464))) = some (r1, r2, r3) := H
 have A2 := zA A20
 clear A20
 replace H := Option.bind_eq_some_iff.mp H
 obtain ⟨t464, A30, H⟩ := H
 replace H : (some (a0_0, t461, t464)) = some (r1, r2, r3) := H
 have A3 := zA A30
 clear A30
 simp only [Option.some.injEq, Prod.mk.injEq] at H
 obtain ⟨rfl, rfl, rfl⟩ := H
 go_enter Try.func29, Try.ntmps29
 go_wp2_with (first | ((with_reducible refine gate_dst (N := 1) rfl ?_); refine bx 1 #[.int .i64 a0_0, .slice A0_1 l0_1.length c0_1, .slice A0_2 l0_2.length c0_2] 43 ?_; intro gb458 hg w4 hbox hb; have BK458 := zA (hbox); have GW458 := gq HB hg; have GE458 := gq HB hg; replace HB := xH HB hb; have := geI GE458; clear hb hbox hg) | ((with_reducible refine gate_dst (N := 2) rfl ?_); refine bx 2 #[.int .i64 0, .slice none 0 0, .slice none 0 0] 46 ?_; intro gb459 hg w5 hbox hb; have BK459 := zA (hbox); have GW459 := gq HB hg; have GE459 := gq HB hg; replace HB := xH HB hb; have NB458_459 := zA ((by rw [hg]; exact neL BK458 : gb458 ≠ gb459)); have NB459_458 := zA ((by rw [hg]; exact neG BK458 : gb459 ≠ gb458)); replace BK458 := xB BK458 hb; have := geI GE459; clear hb hbox hg) | ((with_reducible refine gate_dst (N := 3) rfl ?_); refine bx 3 #[.int .i64 0, .slice none 0 0, .slice none 0 0] 46 ?_; intro gb460 hg w6 hbox hb; have BK460 := zA (hbox); have GW460 := gq HB hg; have GE460 := gq HB hg; replace HB := xH HB hb; have NB458_460 := zA ((by rw [hg]; exact neL BK458 : gb458 ≠ gb460)); have NB460_458 := zA ((by rw [hg]; exact neG BK458 : gb460 ≠ gb458)); replace BK458 := xB BK458 hb; have NB459_460 := zA ((by rw [hg]; exact neL BK459 : gb459 ≠ gb460)); have NB460_459 := zA ((by rw [hg]; exact neG BK459 : gb460 ≠ gb459)); replace BK459 := xB BK459 hb; have := geI GE460; clear hb hbox hg; have hnb7 := NB458_459.out; have hnc7 := NB459_458.out; have hnb8 := NB458_460.out; have hnc8 := NB460_458.out; have hcz9_0 := bc BK458 0; have hcz9_1 := bc BK458 1; have hcz9_2 := bc BK458 2; have hfz9_0 := bf BK458 0; have hfz9_1 := bf BK458 1; have hfz9_2 := bf BK458 2; have hnb10 := NB460_459.out; have hnc10 := NB459_460.out; have hcz11_0 := bc BK460 0; have hcz11_1 := bc BK460 1; have hcz11_2 := bc BK460 2; have hfz11_0 := bf BK460 0; have hfz11_1 := bf BK460 1; have hfz11_2 := bf BK460 2) | ((with_reducible refine gate_callee (f := 20) rfl ?_); refine gL (some 9) Try.func20 #[.slice A0_1 l0_1.length c0_1] ?_; (with_reducible refine (laws_toInt64S.calls k _ _ l0_1 t461 _ ?side1 ?side2 A2.out).mono ?_); (case side1 => exact Kd.C_below HR0_1.out (uH HB.out)); (case side2 => exact HC0_1.out); rintro e w12 ⟨v462, rfl, ho0, hb⟩; refine ⟨_, rfl, ?_⟩; have HO463 := zA (Kd.R_lower ho0 (below_size (uH HB.out))); replace BK458 := zA (blk_below (g := gb458) (o := .cells #[.int .i64 a0_0, .slice A0_1 l0_1.length c0_1, .slice A0_2 l0_2.length c0_2] 43 (0, 0)) (by (repeat refine up1 ?_); refine blk_far ?_ NB458_460.out _; (repeat refine up1 ?_); exact BK458.out) hb); replace BK459 := zA (blk_below (g := gb459) (o := .cells #[.int .i64 0, .slice none 0 0, .slice none 0 0] 46 (0, 0)) (by (repeat refine up1 ?_); refine blk_far ?_ NB459_460.out _; (repeat refine up1 ?_); exact BK459.out) hb); replace BK460 := zA (blk_below (g := gb460) (o := .cells #[.int .i64 a0_0, .slice none 0 0, .slice none 0 0] 46 (0, 0)) (by (repeat refine up1 ?_); refine blk_put (cs := #[.int .i64 0, .slice none 0 0, .slice none 0 0]) ?_ 0 _ rfl; (repeat refine up1 ?_); exact BK460.out) hb); replace HB := xH HB hb; (try clear hb); (try clear hb2); (try clear hk); (try clear hi); (try clear ho0); obtain ⟨Ao13, co13, eo13⟩ := Kd.R_slice HO463.out; subst eo13; have hcz14_0 := bc BK460 0; have hcz14_1 := bc BK460 1; have hcz14_2 := bc BK460 2; have hfz14_0 := bf BK460 0; have hfz14_1 := bf BK460 1; have hfz14_2 := bf BK460 2; have hcz15_0 := bc BK458 0; have hcz15_1 := bc BK458 1; have hcz15_2 := bc BK458 2; have hfz15_0 := bf BK458 0; have hfz15_1 := bf BK458 1; have hfz15_2 := bf BK458 2) | ((with_reducible refine gate_callee (f := 20) rfl ?_); refine gL (some 13) Try.func20 #[.slice A0_2 l0_2.length c0_2] ?_; (with_reducible refine (laws_toInt64S.calls k _ _ l0_2 t464 _ ?side1 ?side2 A3.out).mono ?_); (case side1 => exact Kd.C_below HR0_2.out (uH HB.out)); (case side2 => exact HC0_2.out); rintro e w16 ⟨v465, rfl, ho0, hb⟩; refine ⟨_, rfl, ?_⟩; have HO466 := zA (Kd.R_lower (Kd.R_new' ho0 (Kd.R_lt (uR ((Kd.R_mono (Kd.R_far (p := ⟨gb460, 1, none⟩) (Kd.R_types HO463.out BK460.out (by decide)) (fun _ hk => hk.2) (.slice Ao13 t461.length co13)) (fun _ h_ => h_.1)))))) (below_size (uH HB.out))); replace HO463 := zA (Kd.R_elder' (uR ((Kd.R_mono (Kd.R_far (p := ⟨gb460, 1, none⟩) (Kd.R_types HO463.out BK460.out (by decide)) (fun _ hk => hk.2) (.slice Ao13 t461.length co13)) (fun _ h_ => h_.1)))) (Kd.R_base ho0) hb); replace BK458 := zA (blk_below (g := gb458) (o := .cells #[.int .i64 a0_0, .slice A0_1 l0_1.length c0_1, .slice A0_2 l0_2.length c0_2] 43 (0, 0)) (by (repeat refine up1 ?_); refine blk_far ?_ NB458_460.out _; (repeat refine up1 ?_); exact BK458.out) hb); replace BK459 := zA (blk_below (g := gb459) (o := .cells #[.int .i64 0, .slice none 0 0, .slice none 0 0] 46 (0, 0)) (by (repeat refine up1 ?_); refine blk_far ?_ NB459_460.out _; (repeat refine up1 ?_); exact BK459.out) hb); replace BK460 := zA (blk_below (g := gb460) (o := .cells #[.int .i64 a0_0, .slice Ao13 t461.length co13, .slice none 0 0] 46 (0, 0)) (by (repeat refine up1 ?_); refine blk_put (cs := #[.int .i64 a0_0, .slice none 0 0, .slice none 0 0]) ?_ 1 _ rfl; (repeat refine up1 ?_); exact BK460.out) hb); replace HB := xH HB hb; (try clear hb); (try clear hb2); (try clear hk); (try clear hi); (try clear ho0); obtain ⟨Ao17, co17, eo17⟩ := Kd.R_slice HO466.out; subst eo17; have hcz18_0 := bc BK460 0; have hcz18_1 := bc BK460 1; have hcz18_2 := bc BK460 2; have hfz18_0 := bf BK460 0; have hfz18_1 := bf BK460 1; have hfz18_2 := bf BK460 2; have hcz19_0 := bc BK459 0; have hcz19_1 := bc BK459 1; have hcz19_2 := bc BK459 2; have hfz19_0 := bf BK459 0; have hfz19_1 := bf BK459 1; have hfz19_2 := bf BK459 2))
 refine bodyPost_ret (results_cell_row rfl _ _ gb459 46 #[.int .i64 a0_0, .slice Ao13 t461.length co13, .slice Ao17 t464.length co17] (0, 0) _ rfl (by (repeat refine up1 ?_); refine blk_put (cs := #[.int .i64 a0_0, .slice Ao13 t461.length co13, .slice none 0 0]) ?_ 2 _ rfl; (repeat refine up1 ?_); refine blk_put (cs := #[.int .i64 a0_0, .slice none 0 0, .slice none 0 0]) ?_ 1 _ rfl; (repeat refine up1 ?_); refine blk_put (cs := #[.int .i64 0, .slice none 0 0, .slice none 0 0]) ?_ 0 _ rfl; (repeat refine up1 ?_); refine blk_far ?_ NB459_460.out _; (repeat refine up1 ?_); exact BK459.out) Try.underlying46 rfl (by kernel_rfl)) rfl ?_
 exact ⟨_, _, by first | rfl | (simp [errW_none, errW_some] <;> rfl) | (simp [*, errW_none, errW_some] <;> rfl), uR (Kd.R_mono (Kd.R_far (p := ⟨gb459, 2, none⟩) (Kd.R_far (p := ⟨gb459, 1, none⟩) (Kd.R_far (p := ⟨gb459, 0, none⟩) (Kd.R_far (p := ⟨gb460, 2, none⟩) (Kd.R_types (Kd.R_types HO463.out BK460.out (by decide)) BK459.out (by decide)) (fun _ hk => hk.1.2) (.slice Ao17 t464.length co17)) (fun _ hk => hk.2) (.int .i64 a0_0)) (fun _ hk => hk.2) (.slice Ao13 t461.length co13)) (fun _ hk => hk.2) (.slice Ao17 t464.length co17)) (fun _ hk => hk.1.1.2)), uR (Kd.R_mono (Kd.R_far (p := ⟨gb459, 2, none⟩) (Kd.R_far (p := ⟨gb459, 1, none⟩) (Kd.R_far (p := ⟨gb459, 0, none⟩) (Kd.R_far (p := ⟨gb460, 2, none⟩) (Kd.R_types (Kd.R_types HO466.out BK460.out (by decide)) BK459.out (by decide)) (fun _ hk => hk.1.2) (.slice Ao17 t464.length co17)) (fun _ hk => hk.2) (.int .i64 a0_0)) (fun _ hk => hk.2) (.slice Ao13 t461.length co13)) (fun _ hk => hk.2) (.slice Ao17 t464.length co17)) (fun _ hk => hk.1.1.2)), uH HB.out⟩
/-! ### slices_IndexFunc_ints: function 165 -/
def slices_IndexFunc_ints.l0 : Nat → List Int → (Int → Option Bool) → Int → Int → Option (Int)
 | 0, _, _, _, _ => none
 | k + 1, x0, x1, x7, x8 => if x8 < x7 then (if 0 ≤ x8 then (if x8 < (x0.length : Int) then ((x1 (rd x0 x8)).bind fun t161 => (if t161 = true then (some x8) else (slices_IndexFunc_ints.l0 k x0 x1 x7 (wrap64 (x8 + 1))))) else (none)) else (none)) else (some (-1))
def slices_IndexFunc_ints.f (k : Nat) (l0 : List Int) (a1 : (Int → Option Bool)) : Option (Int) := slices_IndexFunc_ints.l0 k l0 a1 (l0.length : Int) 0
theorem slices_IndexFunc_ints.mono_l : ∀ k, (∀ y0 y1 y2 y3, LeO (slices_IndexFunc_ints.l0 k y0 y1 y2 y3) (slices_IndexFunc_ints.l0 (k + 1) y0 y1 y2 y3))
 | 0 => fun _ _ _ _ r h => by simp [slices_IndexFunc_ints.l0] at h
 | k + 1 => by
  have ih0 := slices_IndexFunc_ints.mono_l k
  ·intro y0 y1 y2 y3
   unfold slices_IndexFunc_ints.l0
   repeat' first
   | (with_reducible exact ih0 _ _ _ _)
   | (with_reducible exact LeO.refl _)
   | (with_reducible exact LeO.none _)
   | (with_reducible refine LeO.ite ?_ ?_)
   | (with_reducible refine LeO.bind ?_ (fun _ => ?_))
   | exact ih0 _ _ _ _
   | exact LeO.none _
   | refine LeO.ite ?_ ?_
   | refine LeO.bind ?_ (fun _ => ?_)
theorem slices_IndexFunc_ints.mono : ∀ a0 a1 k, LeO (slices_IndexFunc_ints.f k a0 a1) (slices_IndexFunc_ints.f (k + 1) a0 a1) := by
 intro a0 a1 k
 have ih0 := slices_IndexFunc_ints.mono_l k
 unfold slices_IndexFunc_ints.f
 repeat' first
   | (with_reducible exact ih0 _ _ _ _)
   | (with_reducible exact LeO.refl _)
   | (with_reducible exact LeO.none _)
   | (with_reducible refine LeO.ite ?_ ?_)
   | (with_reducible refine LeO.bind ?_ (fun _ => ?_))
   | exact ih0 _ _ _ _
   | exact LeO.none _
   | refine LeO.ite ?_ ?_
   | refine LeO.bind ?_ (fun _ => ?_)
set_option maxHeartbeats 8000000 in
set_option maxRecDepth 100000 in
theorem slices_IndexFunc_ints.calls (k : Nat) (A0 : Option Addr) (c0 : Nat) (l0 : List Int) (F1 : Value) (a1 : (Int → Option Bool)) (r : Int) (w : World) (hr0 : Kd.C (Kd.int .i64) w A0 l0.length l0) (hc0 : l0.length ≤ c0) (hF1 : FnI Try.prog w F1 a1) (h : slices_IndexFunc_ints.f k l0 a1 = some r) :
  Calls Try.prog 165 #[.slice A0 l0.length c0, F1] w fun e w' => e = .returned (.int .i64 r) ∧ Below w.heap.size w w' := by
 have HR0 := zA hr0
 have HC0 := zA hc0
 clear hr0 hc0
 obtain ⟨G1, fi1, ca1, rfl, hen1, hF1⟩ := hF1
 have hen1 : ∀ (args_ : Array Value) (w_ : World), (callFunc G1 args_).run Try.prog w_ = .ok (.enter G1 args_) w_ := hen1
 have HF1 := zA hF1
 clear hF1
 have HB := zA (Below.refl w.heap.size w)
 have H : (slices_IndexFunc_ints.l0 k l0 a1 (l0.length : Int) 0) = some r := h
 clear h
 have H' := zA H
 clear H
 go_enter Try.func165, Try.ntmps165
 go_wp2
 go_loopg [8] k (fun kq v8 w' => ∃ (x8_1 : Int), v8 = .int .i64 x8_1 ∧ Aside0 (slices_IndexFunc_ints.l0 kq l0 a1 (l0.length : Int) x8_1 = some r) ∧ Aside0 (kq ≤ k) ∧ Aside0 (Below w.heap.size w w'))
 case atStart => exact ⟨(0), (by first | rfl | (simp; done) | (simp [*]; done)), H', ⟨Nat.le_refl _⟩, ⟨uH HB.out⟩⟩
 case round =>
  clear H'
  (try clear c1);(try clear p2)
  obtain ⟨x8_1, rfl, HA, HK1, HB⟩ := hrel
  cases gk with
  | zero => exact absurd HA.out (by simp [slices_IndexFunc_ints.l0])
  | succ k1 =>
   have H := HA.out
   clear HA
   simp only [slices_IndexFunc_ints.l0] at H
   by_cases c3 : x8_1 < (l0.length : Int)
   rotate_left
   ·rw [if_neg c3] at H
    have c3b0 : decide (x8_1 < (l0.length : Int)) = false := decide_eq_false c3
    clear c3
    obtain rfl := Option.some.inj H
    go_wp2
    go_ret
    exact ⟨by first | rfl | (simp [errW_none, errW_some] <;> rfl) | (simp [*, errW_none, errW_some] <;> rfl), uH HB.out⟩

   rw [if_pos c3] at H
   have c3b0 : decide (x8_1 < (l0.length : Int)) = true := decide_eq_true c3
   clear c3
   by_cases c4 : 0 ≤ x8_1
   rotate_left
   ·rw [if_neg c4] at H
    exact absurd H (by simp)
   rw [if_pos c4] at H
   have c4b0 : decide (0 ≤ x8_1) = true := decide_eq_true c4
   clear c4
   by_cases c5 : x8_1 < (l0.length : Int)
   rotate_left
   ·rw [if_neg c5] at H
    exact absurd H (by simp)
   rw [if_pos c5] at H
   have c5b0 : decide (x8_1 < (l0.length : Int)) = true := decide_eq_true c5
   clear c5
   replace H := Option.bind_eq_some_iff.mp H
   obtain ⟨t161, A60, H⟩ := H
   replace H : (if t161 = true then (some x8_1) else (slices_IndexFunc_ints.l0 k1 l0 a1 (l0.length : Int) (wrap64 (x8_1 + 1)))) = some r := H
   have A6 := zA A60
   clear A60
   by_cases c7 : t161 = true
   ·subst c7
    have H1 : (some x8_1) = some r := by rw [if_pos rfl] at H; exact H
    clear H
    have H := H1
    clear H1
    obtain rfl := Option.some.inj H
    have p160 : 0 ≤ (x8_1 : Int) := of_decide_eq_true (by first | (with_reducible assumption) | assumption)
    have q160 : x8_1 < (l0.length : Int) := of_decide_eq_true (by first | (with_reducible assumption) | assumption)
    obtain ⟨ad160, e160, hx160_0⟩ := Kd.at_int HR0.out x8_1 p160 q160
    cases e160
    replace hx160_0 := hc HB hx160_0
    replace p160 := eq_true p160
    replace q160 := eq_true q160
    go_wp2_with (first | (go_at_fn G1; refine calls_of_args (args' := fi1 ++ #[.int .i64 (rd l0 x8_1)] ++ ca1) (by simp) ?_; refine (HF1.out (rd l0 x8_1) _ A6.out _ (uH HB.out)).mono ?_; rintro e w8 ⟨rfl, hb⟩; replace HB := xH HB hb; (try clear hb)))
    go_ret
    exact ⟨by first | rfl | (simp [errW_none, errW_some] <;> rfl) | (simp [*, errW_none, errW_some] <;> rfl), uH HB.out⟩
   ·replace c7 := Bool.eq_false_iff.mpr c7
    subst c7
    have H1 : (slices_IndexFunc_ints.l0 k1 l0 a1 (l0.length : Int) (wrap64 (x8_1 + 1))) = some r := by rw [if_neg (show ¬ (false = true) by decide)] at H; exact H
    clear H
    have H := H1
    clear H1
    have H' := zA H
    clear H
    have p160 : 0 ≤ (x8_1 : Int) := of_decide_eq_true (by first | (with_reducible assumption) | assumption)
    have q160 : x8_1 < (l0.length : Int) := of_decide_eq_true (by first | (with_reducible assumption) | assumption)
    obtain ⟨ad160, e160, hx160_0⟩ := Kd.at_int HR0.out x8_1 p160 q160
    cases e160
    replace hx160_0 := hc HB hx160_0
    replace p160 := eq_true p160
    replace q160 := eq_true q160
    go_wp2_with (first | (go_at_fn G1; refine calls_of_args (args' := fi1 ++ #[.int .i64 (rd l0 x8_1)] ++ ca1) (by simp) ?_; refine (HF1.out (rd l0 x8_1) _ A6.out _ (uH HB.out)).mono ?_; rintro e w9 ⟨rfl, hb⟩; replace HB := xH HB hb; (try clear hb)))
    go_roundg k1
    case measure => have := HK1.out; omega
    case rel => exact ⟨(wrap64 (x8_1 + 1)), (by first | rfl | (simp; done) | (simp [*]; done)), H', ⟨by have := HK1.out; omega⟩, ⟨uH HB.out⟩⟩
/-! ### slices_ContainsFunc_ints: function 161 -/
def slices_ContainsFunc_ints.f (k : Nat) (l0 : List Int) (a1 : (Int → Option Bool)) : Option (Bool) := (slices_IndexFunc_ints.f k l0 a1).bind fun t162 => (some (decide (t162 ≥ 0)))
theorem slices_ContainsFunc_ints.mono : ∀ a0 a1 k, LeO (slices_ContainsFunc_ints.f k a0 a1) (slices_ContainsFunc_ints.f (k + 1) a0 a1) := by
 intro a0 a1 k
 unfold slices_ContainsFunc_ints.f
 repeat' first
   | (with_reducible exact slices_IndexFunc_ints.mono _ _ _)
   | (with_reducible exact LeO.refl _)
   | (with_reducible exact LeO.none _)
   | (with_reducible refine LeO.ite ?_ ?_)
   | (with_reducible refine LeO.bind ?_ (fun _ => ?_))
   | exact slices_IndexFunc_ints.mono _ _ _
   | exact LeO.none _
   | refine LeO.ite ?_ ?_
   | refine LeO.bind ?_ (fun _ => ?_)
set_option maxHeartbeats 8000000 in
set_option maxRecDepth 100000 in
theorem slices_ContainsFunc_ints.calls (k : Nat) (A0 : Option Addr) (c0 : Nat) (l0 : List Int) (F1 : Value) (a1 : (Int → Option Bool)) (r : Bool) (w : World) (hr0 : Kd.C (Kd.int .i64) w A0 l0.length l0) (hc0 : l0.length ≤ c0) (hF1 : FnI Try.prog w F1 a1) (h : slices_ContainsFunc_ints.f k l0 a1 = some r) :
  Calls Try.prog 161 #[.slice A0 l0.length c0, F1] w fun e w' => e = .returned (.bool r) ∧ Below w.heap.size w w' := by
 have HR0 := zA hr0
 have HC0 := zA hc0
 clear hr0 hc0
 obtain ⟨G1, fi1, ca1, rfl, hen1, hF1⟩ := hF1
 have hen1 : ∀ (args_ : Array Value) (w_ : World), (callFunc G1 args_).run Try.prog w_ = .ok (.enter G1 args_) w_ := hen1
 have HF1 := zA hF1
 clear hF1
 have HB := zA (Below.refl w.heap.size w)
 have H : ((slices_IndexFunc_ints.f k l0 a1).bind fun t162 => (some (decide (t162 ≥ 0)))) = some r := h
 clear h
 replace H := Option.bind_eq_some_iff.mp H
 obtain ⟨t162, A30, H⟩ := H
 replace H : (some (decide (t162 ≥ 0))) = some r := H
 have A3 := zA A30
 clear A30
 obtain rfl := Option.some.inj H
 go_enter Try.func161, Try.ntmps161
 go_wp2_with (first | ((with_reducible refine gate_callee (f := 165) rfl ?_); refine gL (some 7) Try.func165 #[.slice A0 l0.length c0, (.func (.func G1) fi1 ca1)] ?_; (with_reducible refine (slices_IndexFunc_ints.calls k _ _ l0 _ a1 t162 _ ?side1 ?side2 ?side3 A3.out).mono ?_); (case side1 => exact uC HR0.out); (case side2 => exact HC0.out); (case side3 => exact FnI.later (uH HB.out) (show FnI Try.prog w (.func (.func G1) fi1 ca1) a1 from ⟨_, _, _, rfl, hen1, HF1.out⟩)); rintro e w4 ⟨rfl, hb⟩; refine ⟨_, rfl, ?_⟩; replace HB := xH HB hb; (try clear hb); (try clear hb2); (try clear hk); (try clear hi)))
 go_ret
 exact ⟨by first | rfl | (simp [errW_none, errW_some] <;> rfl) | (simp [*, errW_none, errW_some] <;> rfl), uH HB.out⟩
/-! ### impl_areAll_int64K: function 146 -/
def impl_areAll_int64K.f (k : Nat) (l0 : List Int) (a1 : (Int → Option Bool)) : Option (Bool) := (slices_ContainsFunc_ints.f k l0 (fun z_ => impl_areAll_int64_1.f z_ a1)).bind fun t165 => (some (!t165))
theorem impl_areAll_int64K.mono : ∀ a0 a1 k, LeO (impl_areAll_int64K.f k a0 a1) (impl_areAll_int64K.f (k + 1) a0 a1) := by
 intro a0 a1 k
 unfold impl_areAll_int64K.f
 repeat' first
   | (with_reducible exact slices_ContainsFunc_ints.mono _ _ _)
   | (with_reducible exact LeO.refl _)
   | (with_reducible exact LeO.none _)
   | (with_reducible refine LeO.ite ?_ ?_)
   | (with_reducible refine LeO.bind ?_ (fun _ => ?_))
   | exact slices_ContainsFunc_ints.mono _ _ _
   | exact LeO.none _
   | refine LeO.ite ?_ ?_
   | refine LeO.bind ?_ (fun _ => ?_)
set_option maxHeartbeats 8000000 in
set_option maxRecDepth 100000 in
theorem impl_areAll_int64K.calls (k : Nat) (A0 : Option Addr) (c0 : Nat) (l0 : List Int) (F1 : Value) (a1 : (Int → Option Bool)) (r : Bool) (w : World) (hr0 : Kd.C (Kd.int .i64) w A0 l0.length l0) (hc0 : l0.length ≤ c0) (hF1 : FnI Try.prog w F1 a1) (h : impl_areAll_int64K.f k l0 a1 = some r) :
  Calls Try.prog 146 #[.slice A0 l0.length c0, F1] w fun e w' => e = .returned (.bool r) ∧ Below w.heap.size w w' := by
 have hmf : ∀ (fn_ : Fn) (first_ cap_ : Array Value) (w_ : World), (Instr.makeFunc fn_ first_ cap_).run Try.prog w_ = .ok (.func fn_ first_ cap_) w_ := fun _ _ _ _ => rfl
 have HR0 := zA hr0
 have HC0 := zA hc0
 clear hr0 hc0
 obtain ⟨G1, fi1, ca1, rfl, hen1, hF1⟩ := hF1
 have hen1 : ∀ (args_ : Array Value) (w_ : World), (callFunc G1 args_).run Try.prog w_ = .ok (.enter G1 args_) w_ := hen1
 have HF1 := zA hF1
 clear hF1
 have HB := zA (Below.refl w.heap.size w)
 have H : ((slices_ContainsFunc_ints.f k l0 (fun z_ => impl_areAll_int64_1.f z_ a1)).bind fun t165 => (some (!t165))) = some r := h
 clear h
 replace H := Option.bind_eq_some_iff.mp H
 obtain ⟨t165, A30, H⟩ := H
 replace H : (some (!t165)) = some r := H
 have A3 := zA A30
 clear A30
 obtain rfl := Option.some.inj H
 go_enter Try.func146, Try.ntmps146
 go_wp2_with (first | ((with_reducible refine gate_dst (N := 3) rfl ?_); refine bx 3 #[(.func (.func G1) fi1 ca1)] 87 ?_; intro gb164 hg w4 hbox hb; have BK164 := zA (hbox); have GW164 := gq HB hg; have GE164 := gq HB hg; replace HB := xH HB hb; have := geI GE164; clear hb hbox hg) | ((with_reducible refine gate_callee (f := 161) rfl ?_); refine gL (some 7) Try.func161 #[.slice A0 l0.length c0, (.func (.func 162) #[] #[.pointer (some ⟨gb164, 0, none⟩)])] ?_; (with_reducible refine (slices_ContainsFunc_ints.calls k _ _ l0 _ (fun z_ => impl_areAll_int64_1.f z_ a1) t165 _ ?side1 ?side2 ?side3 A3.out).mono ?_); (case side1 => exact uC ((Kd.C_below HR0.out HB.out))); (case side2 => exact HC0.out); (case side3 => exact FnI.of Try.func162 (by kernel_rfl) rfl (fun z_ r_ hr_ W_ hW_ => calls_of_args (args' := #[.int .i64 z_, .pointer (some ⟨gb164, 0, none⟩)]) (by simp) ((impl_areAll_int64_1.calls z_ _ _ a1 r_ W_ (blk_below (g := gb164) (o := .cells #[(.func (.func G1) fi1 ca1)] 87 (0, 0)) (uB BK164.out) hW_) (FnI.later hW_ (by exact FnI.later (uH HB.out) (show FnI Try.prog w (.func (.func G1) fi1 ca1) a1 from ⟨_, _, _, rfl, hen1, HF1.out⟩))) hr_).mono fun e_ W2_ h_ => ⟨h_.1, h_.2⟩))); rintro e w5 ⟨rfl, hb⟩; refine ⟨_, rfl, ?_⟩; replace BK164 := xB BK164 hb; replace HB := xH HB hb; (try clear hb); (try clear hb2); (try clear hk); (try clear hi)))
 go_ret
 exact ⟨by first | rfl | (simp [errW_none, errW_some] <;> rfl) | (simp [*, errW_none, errW_some] <;> rfl), uH HB.out⟩
/-! ### spec_l01In: function 70 -/
def spec_l01In.f (a0 : Int) (a1 : Int) (a2 : Int) : Option (Bool) := if a0 ≥ a1 then (some (decide (a0 ≤ a2))) else (some false)
set_option maxHeartbeats 8000000 in
set_option maxRecDepth 100000 in
theorem spec_l01In.calls (a0 : Int) (a1 : Int) (a2 : Int) (r : Bool) (w : World) (h : spec_l01In.f a0 a1 a2 = some r) :
  Calls Try.prog 70 #[.int .i64 a0, .int .i64 a1, .int .i64 a2] w fun e w' => e = .returned (.bool r) ∧ Drawn0 w w' := by
 have H : (if a0 ≥ a1 then (some (decide (a0 ≤ a2))) else (some false)) = some r := h
 clear h
 by_cases c4 : a0 ≥ a1
 rotate_left
 ·rw [if_neg c4] at H
  have c4b0 : decide (a1 ≤ a0) = false := decide_eq_false c4
  clear c4
  obtain rfl := Option.some.inj H
  go_enter Try.func70, Try.ntmps70
  go_wp2
  go_ret
  exact ⟨by first | rfl | (simp; done) | (simp [*]; done), by repeat (first | exact Drawn0.refl _ | apply Drawn0.step)⟩

 rw [if_pos c4] at H
 have c4b0 : decide (a1 ≤ a0) = true := decide_eq_true c4
 clear c4
 obtain rfl := Option.some.inj H
 go_enter Try.func70, Try.ntmps70
 go_wp2
 go_ret
 exact ⟨by first | rfl | (simp; done) | (simp [*]; done), by repeat (first | exact Drawn0.refl _ | apply Drawn0.step)⟩
/-! ### spec_l01Mod: function 60 -/
def spec_l01Mod.f (a0 : Int) (a1 : Int) : Option (Int) := if a0 = 0 then (none) else (some (Int.tmod (wrap64 ((Int.tmod a1 a0) + a0)) a0))
set_option maxHeartbeats 8000000 in
set_option maxRecDepth 100000 in
theorem spec_l01Mod.calls (a0 : Int) (a1 : Int) (r : Int) (w : World) (h : spec_l01Mod.f a0 a1 = some r) :
  Calls Try.prog 60 #[.int .i64 a0, .int .i64 a1] w fun e w' => e = .returned (.int .i64 r) ∧ Drawn0 w w' := by
 have H : (if a0 = 0 then (none) else (some (Int.tmod (wrap64 ((Int.tmod a1 a0) + a0)) a0))) = some r := h
 clear h
 by_cases c3 : a0 = 0
 rotate_left
 ·rw [if_neg c3] at H
  have c3b0 : (a0 == 0) = false := beq_eq_false_iff_ne.mpr c3
  have c3b1 : (a0 != 0) = true := bne_iff_ne.mpr c3
  obtain rfl := Option.some.inj H
  go_enter Try.func60, Try.ntmps60
  go_wp2
  go_ret
  exact ⟨by first | rfl | (simp; done) | (simp [*]; done), by repeat (first | exact Drawn0.refl _ | apply Drawn0.step)⟩

 rw [if_pos c3] at H
 exact absurd H (by simp)
/-! ### spec_l01Own: function 118 -/
def spec_l01Own.f (l0 : List Int) : Option (List Int) := (some (([] : List Int) : List Int)).bind fun y388 => (if y388.length + l0.length < 17592186044416 then (some (y388 ++ l0)) else (none))
set_option maxHeartbeats 8000000 in
set_option maxRecDepth 100000 in
theorem spec_l01Own.calls (A0 : Option Addr) (c0 : Nat) (l0 : List Int) (r : List Int) (w : World) (hr0 : Kd.C (Kd.int .i64) w A0 l0.length l0) (hc0 : l0.length ≤ c0) (h : spec_l01Own.f l0 = some r) :
  Calls Try.prog 118 #[.slice A0 l0.length c0] w fun e w' => ∃ v0_ : Value, e = .returned (v0_) ∧ Kd.R (Kd.int .i64) 2 w' w.heap.size (fun _ => True) v0_ r ∧ Below w.heap.size w w' := by
 have HR0 := zA hr0
 have HC0 := zA hc0
 clear hr0 hc0
 have HB := zA (Below.refl w.heap.size w)
 have H : ((some (([] : List Int) : List Int)).bind fun y388 => (if y388.length + l0.length < 17592186044416 then (some (y388 ++ l0)) else (none))) = some r := h
 clear h
 obtain ⟨y388, hy388⟩ : ∃ y_ : List Int, y_ = (([] : List Int)) := ⟨_, rfl⟩
 replace H : (if y388.length + l0.length < 17592186044416 then (some (y388 ++ l0)) else (none)) = some r := by first | (rw [hy388]; exact H) | exact H
 have Ny388 := zA hy388
 clear hy388
 by_cases c2 : y388.length + l0.length < 17592186044416
 rotate_left
 ·rw [if_neg c2] at H
  exact absurd H (by simp)

 rw [if_pos c2] at H
 have LMc2 := zA c2
 clear c2
 obtain ⟨y391, hy391⟩ : ∃ y_ : List Int, y_ = (y388 ++ l0) := ⟨_, rfl⟩
 replace H : (some y391) = some r := by first | (rw [hy391]; exact H) | exact H
 have Ny391 := zA hy391
 clear hy391
 obtain rfl := Option.some.inj H
 go_enter Try.func118, Try.ntmps118
 go_wp2_with (first | ((with_reducible refine gate_dst (N := 3) rfl ?_); refine Kd.R_lit (Kd.int .i64) _ 2 ?hg (N := 3) ?hd (xs := ([] : List Int)) (inner := []) (ok := fun _ => True) (okp := fun _ => True) ?hr ?hp (fun _ hk => hk) trivial (Below.refl _ _) (Nat.le_refl _) (by simp) ?_; (case hd => rfl); (case hg => rfl); (case hr => first | (go_simp; done) | (go_simp; rfl)); (case hp => exact (Reps.none _ _)); intro v389 w3 ho4 hb hg_ hnew_; clear hg_ hnew_; (first | rw [← Ny388.out] at ho4 | (simp only [Int.reduceToNat] at ho4; rw [← Ny388.out] at ho4)); have HO390 := zA (Kd.R_lower ho4 (below_size (uH HB.out))); replace HB := xH HB hb; clear hb ho4) | ((with_reducible refine gate_builtin (b := .append) (xs := #[.tmp 3, .tmp 4]) rfl ?_); at_builtin; refine Kd.R_append_rows (Kd.int .i64) (w0 := w) w.heap.size rfl (.tmp 3) (.tmp 4) 22 2 (.int .i64 0) 8 rfl Try.underlying22 info2 rfl (by decide) (by omega) v389 y388 l0 _ _ _ (fun _ => True) (fun _ => False) rfl rfl ?aO ?aR (fun _ _ h => h) (fun _ h => h.elim) ?aF ?aB ?aS ?aL ?_; (case aR => exact uC ((Kd.C_below HR0.out HB.out))); (case aB => exact (uH HB.out)); (case aF => exact (fun _ _ => trivial)); (case aO => exact (uR HO390.out)); (case aS => exact (below_size (uH HB.out))); (case aL => have := LMc2.out; omega); intro v392 w5 ho hb hg hat; rw [← Ny391.out] at ho; replace HB := zA (hb); have HO393 := zA (ho); clear HO390 ho hb hg hat))
 go_ret
 exact ⟨_, by first | rfl | (simp [errW_none, errW_some] <;> rfl) | (simp [*, errW_none, errW_some] <;> rfl), uR HO393.out, uH HB.out⟩
/-! ### spec_l01Power: function 135 -/
def spec_l01Power.l0 : Nat → Int → Int → Int → Int → Option (Int)
 | 0, _, _, _, _ => none
 | k + 1, x0, x2, x7, x8 => if x2 > 0 then (if (Int.tmod x2 2) = 1 then (if x0 = 0 then (none) else (spec_l01Power.l0 k x0 (wrap64 (Int.tdiv x2 2)) (Int.tmod (wrap64 (x7 * x8)) x0) (Int.tmod (wrap64 (x8 * x8)) x0))) else (if x0 = 0 then (none) else (spec_l01Power.l0 k x0 (wrap64 (Int.tdiv x2 2)) x7 (Int.tmod (wrap64 (x8 * x8)) x0)))) else (if x0 = 0 then (none) else (some (Int.tmod x7 x0)))
def spec_l01Power.f (k : Nat) (a0 : Int) (a1 : Int) (a2 : Int) : Option (Int) := (spec_l01Mod.f a0 a1).bind fun t298 => (spec_l01Power.l0 k a0 a2 1 t298)
theorem spec_l01Power.mono_l : ∀ k, (∀ y0 y1 y2 y3, LeO (spec_l01Power.l0 k y0 y1 y2 y3) (spec_l01Power.l0 (k + 1) y0 y1 y2 y3))
 | 0 => fun _ _ _ _ r h => by simp [spec_l01Power.l0] at h
 | k + 1 => by
  have ih0 := spec_l01Power.mono_l k
  ·intro y0 y1 y2 y3
   unfold spec_l01Power.l0
   repeat' first
   | (with_reducible exact ih0 _ _ _ _)
   | (with_reducible exact LeO.refl _)
   | (with_reducible exact LeO.none _)
   | (with_reducible refine LeO.ite ?_ ?_)
   | (with_reducible refine LeO.bind ?_ (fun _ => ?_))
   | exact ih0 _ _ _ _
   | exact LeO.none _
   | refine LeO.ite ?_ ?_
   | refine LeO.bind ?_ (fun _ => ?_)
theorem spec_l01Power.mono : ∀ a0 a1 a2 k, LeO (spec_l01Power.f k a0 a1 a2) (spec_l01Power.f (k + 1) a0 a1 a2) := by
 intro a0 a1 a2 k
 have ih0 := spec_l01Power.mono_l k
 unfold spec_l01Power.f
 repeat' first
   | (with_reducible exact ih0 _ _ _ _)
   | (with_reducible exact LeO.refl _)
   | (with_reducible exact LeO.none _)
   | (with_reducible refine LeO.ite ?_ ?_)
   | (with_reducible refine LeO.bind ?_ (fun _ => ?_))
   | exact ih0 _ _ _ _
   | exact LeO.none _
   | refine LeO.ite ?_ ?_
   | refine LeO.bind ?_ (fun _ => ?_)
set_option maxHeartbeats 8000000 in
set_option maxRecDepth 100000 in
theorem spec_l01Power.calls (k : Nat) (a0 : Int) (a1 : Int) (a2 : Int) (r : Int) (w : World) (h : spec_l01Power.f k a0 a1 a2 = some r) :
  Calls Try.prog 135 #[.int .i64 a0, .int .i64 a1, .int .i64 a2] w fun e w' => e = .returned (.int .i64 r) ∧ Drawn0 w w' := by
 have H : ((spec_l01Mod.f a0 a1).bind fun t298 => (spec_l01Power.l0 k a0 a2 1 t298)) = some r := h
 clear h
 replace H := Option.bind_eq_some_iff.mp H
 obtain ⟨t298, A40, H⟩ := H
 replace H : (spec_l01Power.l0 k a0 a2 1 t298) = some r := H
 have A4 := zA A40
 clear A40
 have H' := zA H
 clear H
 go_enter Try.func135, Try.ntmps135
 go_wp2_with (first | ((with_reducible refine gate_callee (f := 60) rfl ?_); refine gL (some 11) Try.func60 #[.int .i64 a0, .int .i64 a1] ?_; (with_reducible refine (spec_l01Mod.calls a0 a1 t298 _ A4.out).mono ?_); rintro e w' ⟨rfl, ⟨nd, rfl⟩⟩; refine ⟨_, rfl, ?_⟩))
 go_loopg [2, 7, 8] k (fun kq v2 v7 v8 w' => ∃ (x2_1 : Int) (x7_1 : Int) (x8_1 : Int), v2 = .int .i64 x2_1 ∧ v7 = .int .i64 x7_1 ∧ v8 = .int .i64 x8_1 ∧ Aside0 (spec_l01Power.l0 kq a0 x2_1 x7_1 x8_1 = some r) ∧ Aside0 (kq ≤ k) ∧ Drawn0 w w')
 case atStart => exact ⟨(a2), (1), (t298), (by first | rfl | (simp; done) | (simp [*]; done)), (by first | rfl | (simp; done) | (simp [*]; done)), (by first | rfl | (simp; done) | (simp [*]; done)), H', ⟨Nat.le_refl _⟩, by repeat (first | exact Drawn0.refl _ | apply Drawn0.step)⟩
 case round =>
  clear H'
  (try clear c1);(try clear p2)
  obtain ⟨x2_1, x7_1, x8_1, rfl, rfl, rfl, HA, HK1, ⟨m1, rfl⟩⟩ := hrel
  cases gk with
  | zero => exact absurd HA.out (by simp [spec_l01Power.l0])
  | succ k1 =>
   have H := HA.out
   clear HA
   simp only [spec_l01Power.l0] at H
   by_cases c5 : x2_1 > 0
   rotate_left
   ·rw [if_neg c5] at H
    have c5b0 : decide (0 < x2_1) = false := decide_eq_false c5
    clear c5
    by_cases c9 : a0 = 0
    rotate_left
    ·rw [if_neg c9] at H
     have c9b0 : (a0 == 0) = false := beq_eq_false_iff_ne.mpr c9
     have c9b1 : (a0 != 0) = true := bne_iff_ne.mpr c9
     obtain rfl := Option.some.inj H
     go_wp2
     go_ret
     exact ⟨by first | rfl | (simp; done) | (simp [*]; done), by repeat (first | exact Drawn0.refl _ | apply Drawn0.step)⟩

    rw [if_pos c9] at H
    exact absurd H (by simp)
   rw [if_pos c5] at H
   have c5b0 : decide (0 < x2_1) = true := decide_eq_true c5
   clear c5
   by_cases c6 : (Int.tmod x2_1 2) = 1
   rotate_left
   ·rw [if_neg c6] at H
    have c6b0 : ((Int.tmod x2_1 2) == 1) = false := beq_eq_false_iff_ne.mpr c6
    have c6b1 : ((Int.tmod x2_1 2) != 1) = true := bne_iff_ne.mpr c6
    by_cases c8 : a0 = 0
    rotate_left
    ·rw [if_neg c8] at H
     have c8b0 : (a0 == 0) = false := beq_eq_false_iff_ne.mpr c8
     have c8b1 : (a0 != 0) = true := bne_iff_ne.mpr c8
     have H' := zA H
     clear H
     go_wp2
     go_roundg k1
     case measure => have := HK1.out; omega
     case rel => exact ⟨(wrap64 (Int.tdiv x2_1 2)), (x7_1), (Int.tmod (wrap64 (x8_1 * x8_1)) a0), (by first | rfl | (simp; done) | (simp [*]; done)), (by first | rfl | (simp; done) | (simp [*]; done)), (by first | rfl | (simp; done) | (simp [*]; done)), H', ⟨by have := HK1.out; omega⟩, by repeat (first | exact Drawn0.refl _ | apply Drawn0.step)⟩
    rw [if_pos c8] at H
    exact absurd H (by simp)
   rw [if_pos c6] at H
   have c6b0 : ((Int.tmod x2_1 2) == 1) = true := beq_iff_eq.mpr c6
   have c6b1 : ((Int.tmod x2_1 2) != 1) = false := bne_eq_false_iff_eq.mpr c6
   clear c6
   by_cases c7 : a0 = 0
   rotate_left
   ·rw [if_neg c7] at H
    have c7b0 : (a0 == 0) = false := beq_eq_false_iff_ne.mpr c7
    have c7b1 : (a0 != 0) = true := bne_iff_ne.mpr c7
    have H' := zA H
    clear H
    go_wp2
    go_roundg k1
    case measure => have := HK1.out; omega
    case rel => exact ⟨(wrap64 (Int.tdiv x2_1 2)), (Int.tmod (wrap64 (x7_1 * x8_1)) a0), (Int.tmod (wrap64 (x8_1 * x8_1)) a0), (by first | rfl | (simp; done) | (simp [*]; done)), (by first | rfl | (simp; done) | (simp [*]; done)), (by first | rfl | (simp; done) | (simp [*]; done)), H', ⟨by have := HK1.out; omega⟩, by repeat (first | exact Drawn0.refl _ | apply Drawn0.step)⟩
   rw [if_pos c7] at H
   exact absurd H (by simp)
/-! ### spec_l01Inverse: function 86 -/
def spec_l01Inverse.f (k : Nat) (a0 : Int) (a1 : Int) : Option (Int) := (spec_l01Power.f k a0 a1 (wrap64 (a0 - 2))).bind fun t593 => (some t593)
theorem spec_l01Inverse.mono : ∀ a0 a1 k, LeO (spec_l01Inverse.f k a0 a1) (spec_l01Inverse.f (k + 1) a0 a1) := by
 intro a0 a1 k
 unfold spec_l01Inverse.f
 repeat' first
   | (with_reducible exact spec_l01Power.mono _ _ _ _)
   | (with_reducible exact LeO.refl _)
   | (with_reducible exact LeO.none _)
   | (with_reducible refine LeO.ite ?_ ?_)
   | (with_reducible refine LeO.bind ?_ (fun _ => ?_))
   | exact spec_l01Power.mono _ _ _ _
   | exact LeO.none _
   | refine LeO.ite ?_ ?_
   | refine LeO.bind ?_ (fun _ => ?_)
set_option maxHeartbeats 8000000 in
set_option maxRecDepth 100000 in
theorem spec_l01Inverse.calls (k : Nat) (a0 : Int) (a1 : Int) (r : Int) (w : World) (h : spec_l01Inverse.f k a0 a1 = some r) :
  Calls Try.prog 86 #[.int .i64 a0, .int .i64 a1] w fun e w' => e = .returned (.int .i64 r) ∧ Drawn0 w w' := by
 have H : ((spec_l01Power.f k a0 a1 (wrap64 (a0 - 2))).bind fun t593 => (some t593)) = some r := h
 clear h
 replace H := Option.bind_eq_some_iff.mp H
 obtain ⟨t593, A30, H⟩ := H
 replace H : (some t593) = some r := H
 have A3 := zA A30
 clear A30
 obtain rfl := Option.some.inj H
 go_enter Try.func86, Try.ntmps86
 go_wp2_with (first | ((with_reducible refine gate_callee (f := 135) rfl ?_); refine gL (some 9) Try.func135 #[.int .i64 a0, .int .i64 a1, .int .i64 (wrap64 (a0 - 2))] ?_; (with_reducible refine (spec_l01Power.calls k a0 a1 (wrap64 (a0 - 2)) t593 _ A3.out).mono ?_); rintro e w' ⟨rfl, ⟨nd, rfl⟩⟩; refine ⟨_, rfl, ?_⟩))
 go_ret
 exact ⟨by first | rfl | (simp; done) | (simp [*]; done), by repeat (first | exact Drawn0.refl _ | apply Drawn0.step)⟩
/-! ### spec_l01Prime: function 128 -/
def spec_l01Prime.l0 : Nat → Int → Int → Option (Bool)
 | 0, _, _ => none
 | k + 1, x0, x3 => if (wrap64 (x3 * x3)) ≤ x0 then (if x3 = 0 then (none) else (if (Int.tmod x0 x3) = 0 then (some false) else (spec_l01Prime.l0 k x0 (wrap64 (x3 + 1))))) else (some true)
def spec_l01Prime.f (k : Nat) (a0 : Int) : Option (Bool) := (spec_l01In.f a0 2 10007).bind fun t106 => (if t106 = true then (spec_l01Prime.l0 k a0 2) else (some false))
theorem spec_l01Prime.mono_l : ∀ k, (∀ y0 y1, LeO (spec_l01Prime.l0 k y0 y1) (spec_l01Prime.l0 (k + 1) y0 y1))
 | 0 => fun _ _ r h => by simp [spec_l01Prime.l0] at h
 | k + 1 => by
  have ih0 := spec_l01Prime.mono_l k
  ·intro y0 y1
   unfold spec_l01Prime.l0
   repeat' first
   | (with_reducible exact ih0 _ _)
   | (with_reducible exact LeO.refl _)
   | (with_reducible exact LeO.none _)
   | (with_reducible refine LeO.ite ?_ ?_)
   | (with_reducible refine LeO.bind ?_ (fun _ => ?_))
   | exact ih0 _ _
   | exact LeO.none _
   | refine LeO.ite ?_ ?_
   | refine LeO.bind ?_ (fun _ => ?_)
theorem spec_l01Prime.mono : ∀ a0 k, LeO (spec_l01Prime.f k a0) (spec_l01Prime.f (k + 1) a0) := by
 intro a0 k
 have ih0 := spec_l01Prime.mono_l k
 unfold spec_l01Prime.f
 repeat' first
   | (with_reducible exact ih0 _ _)
   | (with_reducible exact LeO.refl _)
   | (with_reducible exact LeO.none _)
   | (with_reducible refine LeO.ite ?_ ?_)
   | (with_reducible refine LeO.bind ?_ (fun _ => ?_))
   | exact ih0 _ _
   | exact LeO.none _
   | refine LeO.ite ?_ ?_
   | refine LeO.bind ?_ (fun _ => ?_)
set_option maxHeartbeats 8000000 in
set_option maxRecDepth 100000 in
theorem spec_l01Prime.calls (k : Nat) (a0 : Int) (r : Bool) (w : World) (h : spec_l01Prime.f k a0 = some r) :
  Calls Try.prog 128 #[.int .i64 a0] w fun e w' => e = .returned (.bool r) ∧ Drawn0 w w' := by
 have H : ((spec_l01In.f a0 2 10007).bind fun t106 => (if t106 = true then (spec_l01Prime.l0 k a0 2) else (some false))) = some r := h
 clear h
 replace H := Option.bind_eq_some_iff.mp H
 obtain ⟨t106, A20, H⟩ := H
 replace H : (if t106 = true then (spec_l01Prime.l0 k a0 2) else (some false)) = some r := H
 have A2 := zA A20
 clear A20
 by_cases c3 : t106 = true
 ·subst c3
  have H1 : (spec_l01Prime.l0 k a0 2) = some r := by rw [if_pos rfl] at H; exact H
  clear H
  have H := H1
  clear H1
  have H' := zA H
  clear H
  go_enter Try.func128, Try.ntmps128
  go_wp2_with (first | ((with_reducible refine gate_callee (f := 70) rfl ?_); refine gL (some 5) Try.func70 #[.int .i64 a0, .int .i64 2, .int .i64 10007] ?_; (with_reducible refine (spec_l01In.calls a0 2 10007 true _ A2.out).mono ?_); rintro e w' ⟨rfl, ⟨nd, rfl⟩⟩; refine ⟨_, rfl, ?_⟩))
  go_loopg [3] k (fun kq v3 w' => ∃ (x3_1 : Int), v3 = .int .i64 x3_1 ∧ Aside0 (spec_l01Prime.l0 kq a0 x3_1 = some r) ∧ Aside0 (kq ≤ k) ∧ Drawn0 w w')
  case atStart => exact ⟨(2), (by first | rfl | (simp; done) | (simp [*]; done)), H', ⟨Nat.le_refl _⟩, by repeat (first | exact Drawn0.refl _ | apply Drawn0.step)⟩
  case round =>
   clear H'
   (try clear c1);(try clear p2);(try clear c3)
   obtain ⟨x3_1, rfl, HA, HK1, ⟨m1, rfl⟩⟩ := hrel
   cases gk with
   | zero => exact absurd HA.out (by simp [spec_l01Prime.l0])
   | succ k1 =>
    have H := HA.out
    clear HA
    simp only [spec_l01Prime.l0] at H
    by_cases c4 : (wrap64 (x3_1 * x3_1)) ≤ a0
    rotate_left
    ·rw [if_neg c4] at H
     have c4b0 : decide ((wrap64 (x3_1 * x3_1)) ≤ a0) = false := decide_eq_false c4
     clear c4
     obtain rfl := Option.some.inj H
     go_wp2
     go_ret
     exact ⟨by first | rfl | (simp; done) | (simp [*]; done), by repeat (first | exact Drawn0.refl _ | apply Drawn0.step)⟩
    rw [if_pos c4] at H
    have c4b0 : decide ((wrap64 (x3_1 * x3_1)) ≤ a0) = true := decide_eq_true c4
    clear c4
    by_cases c5 : x3_1 = 0
    rotate_left
    ·rw [if_neg c5] at H
     have c5b0 : (x3_1 == 0) = false := beq_eq_false_iff_ne.mpr c5
     have c5b1 : (x3_1 != 0) = true := bne_iff_ne.mpr c5
     by_cases c6 : (Int.tmod a0 x3_1) = 0
     rotate_left
     ·rw [if_neg c6] at H
      have c6b0 : ((Int.tmod a0 x3_1) == 0) = false := beq_eq_false_iff_ne.mpr c6
      have c6b1 : ((Int.tmod a0 x3_1) != 0) = true := bne_iff_ne.mpr c6
      have H' := zA H
      clear H
      go_wp2
      go_roundg k1
      case measure => have := HK1.out; omega
      case rel => exact ⟨(wrap64 (x3_1 + 1)), (by first | rfl | (simp; done) | (simp [*]; done)), H', ⟨by have := HK1.out; omega⟩, by repeat (first | exact Drawn0.refl _ | apply Drawn0.step)⟩
     rw [if_pos c6] at H
     have c6b0 : ((Int.tmod a0 x3_1) == 0) = true := beq_iff_eq.mpr c6
     have c6b1 : ((Int.tmod a0 x3_1) != 0) = false := bne_eq_false_iff_eq.mpr c6
     clear c6
     obtain rfl := Option.some.inj H
     go_wp2
     go_ret
     exact ⟨by first | rfl | (simp; done) | (simp [*]; done), by repeat (first | exact Drawn0.refl _ | apply Drawn0.step)⟩
    rw [if_pos c5] at H
    exact absurd H (by simp)
 ·replace c3 := Bool.eq_false_iff.mpr c3
  subst c3
  have H1 : (some false) = some r := by rw [if_neg (show ¬ (false = true) by decide)] at H; exact H
  clear H
  have H := H1
  clear H1
  obtain rfl := Option.some.inj H
  go_enter Try.func128, Try.ntmps128
  go_wp2_with (first | ((with_reducible refine gate_callee (f := 70) rfl ?_); refine gL (some 5) Try.func70 #[.int .i64 a0, .int .i64 2, .int .i64 10007] ?_; (with_reducible refine (spec_l01In.calls a0 2 10007 false _ A2.out).mono ?_); rintro e w' ⟨rfl, ⟨nd, rfl⟩⟩; refine ⟨_, rfl, ?_⟩))
  go_ret
  exact ⟨by first | rfl | (simp; done) | (simp [*]; done), by repeat (first | exact Drawn0.refl _ | apply Drawn0.step)⟩
end Go.Proofs.Ytokkabgkjhpecaa.Pr
