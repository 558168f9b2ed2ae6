/- Printed by a program of this session out of the translation: what these functions of the program compute, under the conditions that each theorem names. -/
import Derived.Test.YtfbnkebgdmfcfaaKC01
import Derived.Test.YtfbnkebgdmfcfaaKC05
import Derived.Test.YtfbnkebgdmfcfaaKFimplNormOf1
import Derived.Test.YtfbnkebgdmfcfaaKC02
import Derived.Test.YtfbnkebgdmfcfaaKFimplMomentsupTo
namespace Go.Proofs.Ytfbnkebgdmfcfaa.Pr
open Go.RowKit Go.Proofs.YtfbnkebgdmfcfaaW.PrintWords Go.Proofs.YtfbnkebgdmfcfaaW.PrintLast Go.Proofs.YtfbnkebgdmfcfaaW.PrintMore
attribute [local go_sem] max2_int min2_int max_two min_two max_three min_three max_four min_four   -- for this text's walks alone
set_option linter.unusedVariables false
set_option linter.unusedSimpArgs false

/-! ### impl_NormOf: function 37 -/
def impl_NormOf.j0 : Nat → Bool → Int → List Int → Int → List (List Int) → List Int → Int → List Int → List Int → Option (Int × Int)
 | 0, _, _, _, _, _, _, _, _, _ => none
 | k + 1, x31, x410000, x410001, x411000, x428000, x428001, x428002, x428003, x428004 => if x31 = true then (some (0, 5)) else ((impl_Moments_field.f x410000 x410001).bind fun t429 => (if 0 ≤ x411000 then (if x411000 < (x428000.length : Int) then ((impl_field_product.f k t429 (rd_L1 x428000 x411000) (rd_L1 x428000 x411000)).bind fun t432 => ((impl_Moments_apply.f k x410000 x410001 t432).bind fun t435 => (some (t435, 0)))) else (none)) else (none)))
def impl_NormOf.f (k : Nat) (a0_0 : Int) (l0_1 : List Int) (a1 : Int) : Option (Int × Int) := (impl_NormOf_1.f a1).bind fun t411 => ((impl_momentsCode.f k a0_0 l0_1 t411 ([] : List (List Int))).bind fun t412 => (if t412 = 0 then ((impl_Moments_upTo.f k a0_0 l0_1 a1).bind fun bt413 => (if bt413.2.2.2.2.2 = true then ((impl_length_int64.f l0_1).bind fun t428 => (impl_NormOf.j0 k (decide (t428 < (wrap64 ((wrap64 (2 * a1)) + 1)))) a0_0 l0_1 a1 bt413.1 bt413.2.1 bt413.2.2.1 bt413.2.2.2.1 bt413.2.2.2.2.1)) else (impl_NormOf.j0 k true a0_0 l0_1 a1 bt413.1 bt413.2.1 bt413.2.2.1 bt413.2.2.2.1 bt413.2.2.2.2.1))) else (some (0, t412))))
def impl_NormOf.T5 : Bool × List (List Nat × List Nat) := (true, [([], []), ([0], [0]), ([1], [1]), ([2], [2]), ([3, 2], [2, 3]), ([4, 2, 2], [2, 4]), ([2], [2]), ([6, 2], [2, 6]), ([7, 2], [2, 7]), ([5, 8, 2], [2, 5, 8]), ([2, 9], [2, 9])])
def impl_NormOf.B5 : List Nat := [0, 1, 3, 7, 15, 31, 7, 71, 199, 511, 1023]
theorem impl_NormOf.tab5 : rtab .any (opsOf Try.f37 5) = impl_NormOf.T5 := by kernel_rfl
theorem impl_NormOf.bits5 : waitsOk impl_NormOf.T5.2 impl_NormOf.B5 = true := by kernel_rfl
def impl_NormOf.T7 : Bool × List (List Nat × List Nat) := (true, [([], []), ([], []), ([1], [1]), ([], []), ([3], [3]), ([], []), ([4, 5], [4, 5]), ([6], [6]), ([], []), ([8], [8]), ([], []), ([9, 10], [9, 10]), ([11], [11]), ([2, 7, 12, 2], [2, 7, 12]), ([0, 13, 13], [0, 13]), ([14, 14, 0, 1, 2, 3, 4, 5, 6, 7, 8, 9, 10, 11, 12, 13, 14], [14]), ([15, 0, 1, 2, 3, 4, 5, 6, 7, 8, 9, 10, 11, 12, 13, 14, 15], [])])
def impl_NormOf.B7 : List Nat := [0, 0, 2, 0, 8, 0, 56, 120, 0, 256, 0, 1792, 3840, 8190, 16383, 32767, 65535]
theorem impl_NormOf.tab7 : rtab .any (opsOf Try.f37 7) = impl_NormOf.T7 := by kernel_rfl
theorem impl_NormOf.bits7 : waitsOk impl_NormOf.T7.2 impl_NormOf.B7 = true := by kernel_rfl
set_option maxHeartbeats 8000000 in
set_option maxRecDepth 100000 in
theorem impl_NormOf.calls (k : Nat) (a0_0 : Int) (A0_1 : Option Addr) (c0_1 : Nat) (l0_1 : List Int) (a1 : Int) (r1 : Int) (r2 : Int) (w : World) (hr0_1 : Kd.C (Kd.int .i64) w A0_1 l0_1.length l0_1) (hc0_1 : l0_1.length ≤ c0_1) (h : impl_NormOf.f k a0_0 l0_1 a1 = some (r1, r2)) :
  Calls Try.prog 37 #[.agg #[.int .i64 a0_0, .slice A0_1 l0_1.length c0_1], .int .i64 a1] w fun e w' => e = .returned (.tuple #[.int .i64 r1, .int .i64 r2]) ∧ Below w.heap.size w w' := by
 have hu40 := Try.underlying40
 have hu95 := Try.underlying95
 have hmf : ∀ (fn_ : Fn) (first_ cap_ : Array Value) (w_ : World), (Instr.makeFunc fn_ first_ cap_).run Try.prog w_ = .ok (.func fn_ first_ cap_) w_ := fun _ _ _ _ => rfl
 have HR0_1 := zA hr0_1
 have HC0_1 := zA hc0_1
 clear hr0_1 hc0_1
 have HB := zA (Below.refl w.heap.size w)
 have H : ((impl_NormOf_1.f a1).bind fun t411 => ((impl_momentsCode.f k a0_0 l0_1 t411 ([] : List (List Int))).bind fun t412 => (if t412 = 0 then ((impl_Moments_upTo.f k a0_0 l0_1 a1).bind fun bt413 => (if bt413.2.2.2.2.2 = true then ((impl_length_int64.f l0_1).bind fun t428 => (impl_NormOf.j0 k (decide (t428 < (wrap64 ((wrap64 (2 * a1)) + 1)))) a0_0 l0_1 a1 bt413.1 bt413.2.1 bt413.2.2.1 bt413.2.2.2.1 bt413.2.2.2.2.1)) else (impl_NormOf.j0 k true a0_0 l0_1 a1 bt413.1 bt413.2.1 bt413.2.2.1 bt413.2.2.2.1 bt413.2.2.2.2.1))) else (some (0, t412))))) = some (r1, r2) := h
 clear h
 replace H := Option.bind_eq_some_iff.mp H
 obtain ⟨t411, A30, H⟩ := H
 replace H : ((impl_momentsCode.f k a0_0 l0_1 t411 ([] : List (List Int))).bind fun t412 => (if t412 = 0 then ((impl_Moments_upTo.f k a0_0 l0_1 a1).bind fun bt413 => (if bt413.2.2.2.2.2 = true then ((impl_length_int64.f l0_1).bind fun t428 => (impl_NormOf.j0 k (decide (t428 < (wrap64 ((wrap64 (2 * a1)) + 1)))) a0_0 l0_1 a1 bt413.1 bt413.2.1 bt413.2.2.1 bt413.2.2.2.1 bt413.2.2.2.2.1)) else (impl_NormOf.j0 k true a0_0 l0_1 a1 bt413.1 bt413.2.1 bt413.2.2.1 bt413.2.2.2.1 bt413.2.2.2.2.1))) else (some (0, t412)))) = some (r1, r2) := H
 have A3 := zA A30
 clear A30
 replace H := Option.bind_eq_some_iff.mp H
 obtain ⟨t412, A40, H⟩ := H
 replace H : (if t412 = 0 then ((impl_Moments_upTo.f k a0_0 l0_1 a1).bind fun bt413 => (if bt413.2.2.2.2.2 = true then ((impl_length_int64.f l0_1).bind fun t428 => (impl_NormOf.j0 k (decide (t428 < (wrap64 ((wrap64 (2 * a1)) + 1)))) a0_0 l0_1 a1 bt413.1 bt413.2.1 bt413.2.2.1 bt413.2.2.2.1 bt413.2.2.2.2.1)) else (impl_NormOf.j0 k true a0_0 l0_1 a1 bt413.1 bt413.2.1 bt413.2.2.1 bt413.2.2.2.1 bt413.2.2.2.2.1))) else (some (0, t412))) = some (r1, r2) := H
 have A4 := zA A40
 clear A40
 by_cases c5 : t412 = 0
 rotate_left
 ·rw [if_neg c5] at H
  have c5b0 : (t412 == 0) = false := beq_eq_false_iff_ne.mpr c5
  have c5b1 : (t412 != 0) = true := bne_iff_ne.mpr c5
  simp only [Option.some.injEq, Prod.mk.injEq] at H
  obtain ⟨rfl, rfl⟩ := H
  go_enter Try.func37, Try.ntmps37
  go_wp2_with (first | ((with_reducible refine gate_dst (N := 2) rfl ?_); refine bx 2 #[.int .i64 a0_0, .slice A0_1 l0_1.length c0_1] 40 ?_; intro gb409 hg w41 hbox hb; have BK409 := zA (hbox); have GW409 := gq HB hg; have GE409 := gq HB hg; replace HB := xH HB hb; have := geI GE409; clear hb hbox hg) | ((with_reducible refine gate_dst (N := 3) rfl ?_); refine bx 3 #[.int .i64 a1] 2 ?_; intro gb410 hg w42 hbox hb; have BK410 := zA (hbox); have GW410 := gq HB hg; have GE410 := gq HB hg; replace HB := xH HB hb; have NB409_410 := zA ((by rw [hg]; exact neL BK409 : gb409 ≠ gb410)); have NB410_409 := zA ((by rw [hg]; exact neG BK409 : gb410 ≠ gb409)); replace BK409 := xB BK409 hb; have := geI GE410; clear hb hbox hg; have hnb43 := NB409_410.out; have hnc43 := NB410_409.out; have hcz44_0 := bc BK409 0; have hcz44_1 := bc BK409 1; have hfz44_0 := bf BK409 0; have hfz44_1 := bf BK409 1) | ((with_reducible refine gate_callee (f := 68) rfl ?_); refine gL (some 11) Try.func68 #[.agg #[.int .i64 a0_0, .slice A0_1 l0_1.length c0_1], (.func (.func 86) #[] #[.pointer (some ⟨gb410, 0, none⟩)]), .slice none 0 0] ?_; (refine (impl_momentsCode.calls k a0_0 _ _ l0_1 _ t411 _ _ ([] : List (List Int)) t412 _ ?side1 ?side2 ?side3 ?side4 ?side5 A4.out).mono ?_); (case side1 => exact uC ((Kd.C_below HR0_1.out HB.out))); (case side2 => exact HC0_1.out); (case side3 => exact FnB.of Try.func86 (by kernel_rfl) rfl (fun W_ hW_ => calls_of_args (args' := #[.pointer (some ⟨gb410, 0, none⟩)]) (by simp) ((impl_NormOf_1.calls _ a1 _ W_ (blk_below (g := gb410) (o := .cells #[.int .i64 a1] 2 (0, 0)) (uB BK410.out) hW_) A3.out).mono fun e_ W2_ h_ => ⟨h_.1, h_.2.below⟩))); (case side4 => exact Kd.C_nil _ _); (case side5 => exact Nat.le_refl _); rintro e w45 ⟨rfl, hb⟩; refine ⟨_, rfl, ?_⟩; replace BK409 := xB BK409 hb; replace BK410 := xB BK410 hb; replace HB := xH HB hb; (try clear hb); (try clear hb2); (try clear hk); (try clear hi)))
  go_ret2
  exact ⟨by first | rfl | (simp [errW_none, errW_some] <;> rfl) | (simp [*, errW_none, errW_some] <;> rfl), uH HB.out⟩

 rw [if_pos c5] at H
 have c5b0 : (t412 == 0) = true := beq_iff_eq.mpr c5
 have c5b1 : (t412 != 0) = false := bne_eq_false_iff_eq.mpr c5
 clear c5
 replace H := Option.bind_eq_some_iff.mp H
 obtain ⟨⟨t413, t416, t419, t420, t423, t426⟩, A60, H⟩ := H
 replace H : (if t426 = true then ((impl_length_int64.f l0_1).bind fun t428 => (impl_NormOf.j0 k (decide (t428 < (wrap64 ((wrap64 (2 * a1)) + 1)))) a0_0 l0_1 a1 t413 t416 t419 t420 t423)) else (impl_NormOf.j0 k true a0_0 l0_1 a1 t413 t416 t419 t420 t423)) = some (r1, r2) := H
 have A6 := zA A60
 clear A60
 have HC7 := zA H
 clear H
 go_enter Try.func37, Try.ntmps37
 go_upto_region 5 with (first | ((with_reducible refine gate_dst (N := 2) rfl ?_); refine bx 2 #[.int .i64 a0_0, .slice A0_1 l0_1.length c0_1] 40 ?_; intro gb409 hg w8 hbox hb; have BK409 := zA (hbox); have GW409 := gq HB hg; have GE409 := gq HB hg; replace HB := xH HB hb; have := geI GE409; clear hb hbox hg) | ((with_reducible refine gate_dst (N := 3) rfl ?_); refine bx 3 #[.int .i64 a1] 2 ?_; intro gb410 hg w9 hbox hb; have BK410 := zA (hbox); have GW410 := gq HB hg; have GE410 := gq HB hg; replace HB := xH HB hb; have NB409_410 := zA ((by rw [hg]; exact neL BK409 : gb409 ≠ gb410)); have NB410_409 := zA ((by rw [hg]; exact neG BK409 : gb410 ≠ gb409)); replace BK409 := xB BK409 hb; have := geI GE410; clear hb hbox hg; have hnb10 := NB409_410.out; have hnc10 := NB410_409.out; have hcz11_0 := bc BK409 0; have hcz11_1 := bc BK409 1; have hfz11_0 := bf BK409 0; have hfz11_1 := bf BK409 1) | ((with_reducible refine gate_callee (f := 68) rfl ?_); refine gL (some 11) Try.func68 #[.agg #[.int .i64 a0_0, .slice A0_1 l0_1.length c0_1], (.func (.func 86) #[] #[.pointer (some ⟨gb410, 0, none⟩)]), .slice none 0 0] ?_; (refine (impl_momentsCode.calls k a0_0 _ _ l0_1 _ t411 _ _ ([] : List (List Int)) t412 _ ?side1 ?side2 ?side3 ?side4 ?side5 A4.out).mono ?_); (case side1 => exact uC ((Kd.C_below HR0_1.out HB.out))); (case side2 => exact HC0_1.out); (case side3 => exact FnB.of Try.func86 (by kernel_rfl) rfl (fun W_ hW_ => calls_of_args (args' := #[.pointer (some ⟨gb410, 0, none⟩)]) (by simp) ((impl_NormOf_1.calls _ a1 _ W_ (blk_below (g := gb410) (o := .cells #[.int .i64 a1] 2 (0, 0)) (uB BK410.out) hW_) A3.out).mono fun e_ W2_ h_ => ⟨h_.1, h_.2.below⟩))); (case side4 => exact Kd.C_nil _ _); (case side5 => exact Nat.le_refl _); rintro e w12 ⟨rfl, hb⟩; refine ⟨_, rfl, ?_⟩; replace BK409 := xB BK409 hb; replace BK410 := xB BK410 hb; replace HB := xH HB hb; (try clear hb); (try clear hb2); (try clear hk); (try clear hi); have hcz13_0 := bc BK409 0; have hcz13_1 := bc BK409 1; have hfz13_0 := bf BK409 0; have hfz13_1 := bf BK409 1; have hcz14_0 := bc BK410 0; have hfz14_0 := bf BK410 0) | ((with_reducible refine gate_callee (f := 88) rfl ?_); refine gL (some 18) Try.func88 #[.agg #[.int .i64 a0_0, .slice A0_1 l0_1.length c0_1], .int .i64 a1] ?_; (with_reducible refine (impl_Moments_upTo.calls k a0_0 _ _ l0_1 a1 t413 t416 t419 t420 t423 t426 _ ?side1 ?side2 A6.out).mono ?_); (case side1 => exact uC ((Kd.C_below HR0_1.out HB.out))); (case side2 => exact HC0_1.out); rintro e w15 ⟨v414, v417, v421, v424, rfl, ho0, ho1, ho2, ho3, hb⟩; refine ⟨_, rfl, ?_⟩; have HO415 := zA (Kd.N_lower (Kd.N_mono (ok' := fun k_ => some k_ ≠ (v417 : Value).ownBlock ∧ some k_ ≠ (v421 : Value).ownBlock ∧ some k_ ≠ (v424 : Value).ownBlock ∧ k_ ≠ gb409 ∧ k_ ≠ gb410) ho0 (fun k_ hk_ => ⟨hk_.2.1, hk_.2.2.1, hk_.2.2.2, (Kd.freshB (g := gb409) (o := .cells #[.int .i64 a0_0, .slice A0_1 l0_1.length c0_1] 40 (0, 0)) (uB BK409.out) k_ hk_.1), (Kd.freshB (g := gb410) (o := .cells #[.int .i64 a1] 2 (0, 0)) (uB BK410.out) k_ hk_.1)⟩)) (below_size (uH HB.out))); have HO418 := zA (Kd.R_lower (Kd.R_newB (Kd.R_mono (ok' := fun k_ => some k_ ≠ (v421 : Value).ownBlock ∧ some k_ ≠ (v424 : Value).ownBlock) ho1 (fun _ hk_ => hk_.2)) (g := gb410) (o := .cells #[.int .i64 a1] 2 (0, 0)) (uB BK410.out)) (below_size (uH HB.out))); have HO422 := zA (Kd.R_lower (Kd.R_newB (Kd.R_mono (ok' := fun k_ => some k_ ≠ (v417 : Value).ownBlock ∧ some k_ ≠ (v424 : Value).ownBlock) ho2 (fun _ hk_ => hk_.2)) (g := gb410) (o := .cells #[.int .i64 a1] 2 (0, 0)) (uB BK410.out)) (below_size (uH HB.out))); have HO425 := zA (Kd.R_lower (Kd.R_newB (Kd.R_mono (ok' := fun k_ => some k_ ≠ (v417 : Value).ownBlock ∧ some k_ ≠ (v421 : Value).ownBlock) ho3 (fun _ hk_ => hk_.2)) (g := gb410) (o := .cells #[.int .i64 a1] 2 (0, 0)) (uB BK410.out)) (below_size (uH HB.out))); replace BK409 := xB BK409 hb; replace BK410 := xB BK410 hb; replace HB := xH HB hb; (try clear hb); (try clear hb2); (try clear hk); (try clear hi); (try clear ho0); (try clear ho1); (try clear ho2); (try clear ho3)) | ((with_reducible refine gate_dst (N := 7) rfl ?_); refine bx 7 #[.slice none 0 0, .slice none 0 0, .int .i64 0, .slice none 0 0, .slice none 0 0] 95 ?_; intro gb427 hg w16 hbox hb; replace HO415 := zA (Kd.N_below (Kd.N_elderB (by (with_reducible repeat (first | apply Kd.N_alloc | apply Kd.N_drewN | apply Kd.N_drew)); exact HO415.out) gb427 (Nat.le_of_eq hg.symm)) hb); replace HO418 := xR HO418 hb; replace HO422 := xR HO422 hb; replace HO425 := xR HO425 hb; have BK427 := zA (hbox); have GW427 := gq HB hg; have GE427 := gq HB hg; replace HB := xH HB hb; have NB409_427 := zA ((by rw [hg]; exact neL BK409 : gb409 ≠ gb427)); have NB427_409 := zA ((by rw [hg]; exact neG BK409 : gb427 ≠ gb409)); replace BK409 := xB BK409 hb; have NB410_427 := zA ((by rw [hg]; exact neL BK410 : gb410 ≠ gb427)); have NB427_410 := zA ((by rw [hg]; exact neG BK410 : gb427 ≠ gb410)); replace BK410 := xB BK410 hb; have := geI GE427; clear hb hbox hg; obtain ⟨Ao17, co17, eo17⟩ := Kd.N_slice HO415.out; subst eo17; have hnb18 := NB427_409.out; have hnc18 := NB409_427.out; have hnb19 := NB427_410.out; have hnc19 := NB410_427.out; have hcz20_0 := bc BK427 0; have hcz20_1 := bc BK427 1; have hcz20_2 := bc BK427 2; have hcz20_3 := bc BK427 3; have hcz20_4 := bc BK427 4; have hfz20_0 := bf BK427 0; have hfz20_1 := bf BK427 1; have hfz20_2 := bf BK427 2; have hfz20_3 := bf BK427 3; have hfz20_4 := bf BK427 4; obtain ⟨Ao21, co21, eo21⟩ := Kd.R_slice HO418.out; subst eo21; obtain ⟨Ao22, co22, eo22⟩ := Kd.R_slice HO422.out; subst eo22; obtain ⟨Ao23, co23, eo23⟩ := Kd.R_slice HO425.out; subst eo23))
 (try simp only [Act.put, ls, lz, ln])
 go_cut [31] (fun v31 wc => ∃ (kq : Nat) (x31_6 : Bool), v31 = .bool x31_6 ∧ Aside0 (impl_NormOf.j0 kq x31_6 a0_0 l0_1 a1 t413 t416 t419 t420 t423 = some (r1, r2)) ∧ Aside0 (kq ≤ k) ∧ Aside0 (Kd.N (Kd.slice 2 (Kd.int .i64)) 22 wc w.heap.size (fun k_ => ax k_ (.slice Ao21 t416.length co21) ∧ ax k_ (.slice Ao22 t420.length co22) ∧ ax k_ (.slice Ao23 t423.length co23) ∧ k_ ≠ gb409 ∧ k_ ≠ gb410 ∧ k_ ≠ gb427) (.slice Ao17 t413.length co17) t413) ∧ Aside0 (Kd.R (Kd.int .i64) 2 wc w.heap.size (fun k_ => ax k_ (.slice Ao22 t420.length co22) ∧ ax k_ (.slice Ao23 t423.length co23) ∧ k_ ≠ gb410) (.slice Ao21 t416.length co21) t416) ∧ Aside0 (Kd.R (Kd.int .i64) 2 wc w.heap.size (fun k_ => ax k_ (.slice Ao21 t416.length co21) ∧ ax k_ (.slice Ao23 t423.length co23) ∧ k_ ≠ gb410) (.slice Ao22 t420.length co22) t420) ∧ Aside0 (Kd.R (Kd.int .i64) 2 wc w.heap.size (fun k_ => ax k_ (.slice Ao21 t416.length co21) ∧ ax k_ (.slice Ao22 t420.length co22) ∧ k_ ≠ gb410) (.slice Ao23 t423.length co23) t423) ∧ Aside0 (wc.heap[gb409]? = some (.cells #[.int .i64 a0_0, (.slice A0_1 l0_1.length c0_1)] 40 (0, 0))) ∧ Aside0 (wc.heap[gb410]? = some (.cells #[.int .i64 a1] 2 (0, 0))) ∧ Aside0 (wc.heap[gb427]? = some (.cells #[(.slice Ao17 t413.length co17), (.slice Ao21 t416.length co21), .int .i64 t419, (.slice Ao22 t420.length co22), (.slice Ao23 t423.length co23)] 95 (0, 0))) ∧ Aside0 (Below w.heap.size w wc))
 case first =>
  have H := HC7.out
  clear HC7
  by_cases c24 : t426 = true
  ·subst c24
   have H1 : ((impl_length_int64.f l0_1).bind fun t428 => (impl_NormOf.j0 k (decide (t428 < (wrap64 ((wrap64 (2 * a1)) + 1)))) a0_0 l0_1 a1 t413 t416 t419 t420 t423)) = some (r1, r2) := by rw [if_pos rfl] at H; exact H
   clear H
   have H := H1
   clear H1
   replace H := Option.bind_eq_some_iff.mp H
   obtain ⟨t428, A250, H⟩ := H
   replace H : (impl_NormOf.j0 k (decide (t428 < (wrap64 ((wrap64 (2 * a1)) + 1)))) a0_0 l0_1 a1 t413 t416 t419 t420 t423) = some (r1, r2) := H
   have A25 := zA A250
   clear A250
   have H' := zA H
   clear H
   try go_wp2
   have n0_ : Aside0 (Kd.N (Kd.slice 2 (Kd.int .i64)) 22 (((((w16.setCell ⟨gb427, 0, none⟩ (.slice Ao17 t413.length co17)).setCell ⟨gb427, 1, none⟩ (.slice Ao21 t416.length co21)).setCell ⟨gb427, 2, none⟩ (.int .i64 t419)).setCell ⟨gb427, 3, none⟩ (.slice Ao22 t420.length co22)).setCell ⟨gb427, 4, none⟩ (.slice Ao23 t423.length co23)) w.heap.size (fun k_ => ax k_ (.slice Ao21 t416.length co21) ∧ ax k_ (.slice Ao22 t420.length co22) ∧ ax k_ (.slice Ao23 t423.length co23) ∧ k_ ≠ gb409 ∧ k_ ≠ gb410 ∧ k_ ≠ gb427) (.slice Ao17 t413.length co17) t413) := ⟨by (with_reducible repeat (first | apply Kd.N_alloc | apply Kd.N_drewN | apply Kd.N_drew)); exact Kd.N_mono (Kd.N_far (p := ⟨gb427, 4, none⟩) (Kd.N_far (p := ⟨gb427, 3, none⟩) (Kd.N_far (p := ⟨gb427, 2, none⟩) (Kd.N_far (p := ⟨gb427, 1, none⟩) (Kd.N_far (p := ⟨gb427, 0, none⟩) (Kd.N_mono HO415.out (fun k_ hk => (⟨hk, hk.2⟩ : _ ∧ k_ ≠ gb427))) (fun _ hk => hk.2) (.slice Ao17 t413.length co17)) (fun _ hk => hk.2) (.slice Ao21 t416.length co21)) (fun _ hk => hk.2) (.int .i64 t419)) (fun _ hk => hk.2) (.slice Ao22 t420.length co22)) (fun _ hk => hk.2) (.slice Ao23 t423.length co23)) (fun _ hk => ⟨hk.1.1.1, ⟨hk.1.1.2.1, ⟨hk.1.1.2.2.1, ⟨hk.1.1.2.2.2.1, ⟨hk.1.1.2.2.2.2, hk.1.2⟩⟩⟩⟩⟩)⟩
   have n1_ : Aside0 (Kd.R (Kd.int .i64) 2 (((((w16.setCell ⟨gb427, 0, none⟩ (.slice Ao17 t413.length co17)).setCell ⟨gb427, 1, none⟩ (.slice Ao21 t416.length co21)).setCell ⟨gb427, 2, none⟩ (.int .i64 t419)).setCell ⟨gb427, 3, none⟩ (.slice Ao22 t420.length co22)).setCell ⟨gb427, 4, none⟩ (.slice Ao23 t423.length co23)) w.heap.size (fun k_ => ax k_ (.slice Ao22 t420.length co22) ∧ ax k_ (.slice Ao23 t423.length co23) ∧ k_ ≠ gb410) (.slice Ao21 t416.length co21) t416) := ⟨uR (Kd.R_mono (Kd.R_far (p := ⟨gb427, 4, none⟩) (Kd.R_far (p := ⟨gb427, 3, none⟩) (Kd.R_far (p := ⟨gb427, 2, none⟩) (Kd.R_far (p := ⟨gb427, 1, none⟩) (Kd.R_far (p := ⟨gb427, 0, none⟩) (Kd.R_types HO418.out BK427.out (by decide)) (fun _ hk => hk.2) (.slice Ao17 t413.length co17)) (fun _ hk => hk.2) (.slice Ao21 t416.length co21)) (fun _ hk => hk.2) (.int .i64 t419)) (fun _ hk => hk.2) (.slice Ao22 t420.length co22)) (fun _ hk => hk.2) (.slice Ao23 t423.length co23)) (fun _ hk => ⟨hk.1.1.1, ⟨hk.1.1.2, hk.1.2⟩⟩))⟩
   have n2_ : Aside0 (Kd.R (Kd.int .i64) 2 (((((w16.setCell ⟨gb427, 0, none⟩ (.slice Ao17 t413.length co17)).setCell ⟨gb427, 1, none⟩ (.slice Ao21 t416.length co21)).setCell ⟨gb427, 2, none⟩ (.int .i64 t419)).setCell ⟨gb427, 3, none⟩ (.slice Ao22 t420.length co22)).setCell ⟨gb427, 4, none⟩ (.slice Ao23 t423.length co23)) w.heap.size (fun k_ => ax k_ (.slice Ao21 t416.length co21) ∧ ax k_ (.slice Ao23 t423.length co23) ∧ k_ ≠ gb410) (.slice Ao22 t420.length co22) t420) := ⟨uR (Kd.R_mono (Kd.R_far (p := ⟨gb427, 4, none⟩) (Kd.R_far (p := ⟨gb427, 3, none⟩) (Kd.R_far (p := ⟨gb427, 2, none⟩) (Kd.R_far (p := ⟨gb427, 1, none⟩) (Kd.R_far (p := ⟨gb427, 0, none⟩) (Kd.R_types HO422.out BK427.out (by decide)) (fun _ hk => hk.2) (.slice Ao17 t413.length co17)) (fun _ hk => hk.2) (.slice Ao21 t416.length co21)) (fun _ hk => hk.2) (.int .i64 t419)) (fun _ hk => hk.2) (.slice Ao22 t420.length co22)) (fun _ hk => hk.2) (.slice Ao23 t423.length co23)) (fun _ hk => ⟨hk.1.1.1, ⟨hk.1.1.2, hk.1.2⟩⟩))⟩
   have n3_ : Aside0 (Kd.R (Kd.int .i64) 2 (((((w16.setCell ⟨gb427, 0, none⟩ (.slice Ao17 t413.length co17)).setCell ⟨gb427, 1, none⟩ (.slice Ao21 t416.length co21)).setCell ⟨gb427, 2, none⟩ (.int .i64 t419)).setCell ⟨gb427, 3, none⟩ (.slice Ao22 t420.length co22)).setCell ⟨gb427, 4, none⟩ (.slice Ao23 t423.length co23)) w.heap.size (fun k_ => ax k_ (.slice Ao21 t416.length co21) ∧ ax k_ (.slice Ao22 t420.length co22) ∧ k_ ≠ gb410) (.slice Ao23 t423.length co23) t423) := ⟨uR (Kd.R_mono (Kd.R_far (p := ⟨gb427, 4, none⟩) (Kd.R_far (p := ⟨gb427, 3, none⟩) (Kd.R_far (p := ⟨gb427, 2, none⟩) (Kd.R_far (p := ⟨gb427, 1, none⟩) (Kd.R_far (p := ⟨gb427, 0, none⟩) (Kd.R_types HO425.out BK427.out (by decide)) (fun _ hk => hk.2) (.slice Ao17 t413.length co17)) (fun _ hk => hk.2) (.slice Ao21 t416.length co21)) (fun _ hk => hk.2) (.int .i64 t419)) (fun _ hk => hk.2) (.slice Ao22 t420.length co22)) (fun _ hk => hk.2) (.slice Ao23 t423.length co23)) (fun _ hk => ⟨hk.1.1.1, ⟨hk.1.1.2, hk.1.2⟩⟩))⟩
   have n4_ : Aside0 ((((((w16.setCell ⟨gb427, 0, none⟩ (.slice Ao17 t413.length co17)).setCell ⟨gb427, 1, none⟩ (.slice Ao21 t416.length co21)).setCell ⟨gb427, 2, none⟩ (.int .i64 t419)).setCell ⟨gb427, 3, none⟩ (.slice Ao22 t420.length co22)).setCell ⟨gb427, 4, none⟩ (.slice Ao23 t423.length co23)).heap[gb409]? = some (.cells #[.int .i64 a0_0, .slice A0_1 l0_1.length c0_1] 40 (0, 0))) := ⟨by (repeat refine up1 ?_); refine blk_far ?_ NB409_427.out _; (repeat refine up1 ?_); refine blk_far ?_ NB409_427.out _; (repeat refine up1 ?_); refine blk_far ?_ NB409_427.out _; (repeat refine up1 ?_); refine blk_far ?_ NB409_427.out _; (repeat refine up1 ?_); refine blk_far ?_ NB409_427.out _; (repeat refine up1 ?_); exact BK409.out⟩
   have n5_ : Aside0 ((((((w16.setCell ⟨gb427, 0, none⟩ (.slice Ao17 t413.length co17)).setCell ⟨gb427, 1, none⟩ (.slice Ao21 t416.length co21)).setCell ⟨gb427, 2, none⟩ (.int .i64 t419)).setCell ⟨gb427, 3, none⟩ (.slice Ao22 t420.length co22)).setCell ⟨gb427, 4, none⟩ (.slice Ao23 t423.length co23)).heap[gb410]? = some (.cells #[.int .i64 a1] 2 (0, 0))) := ⟨by (repeat refine up1 ?_); refine blk_far ?_ NB410_427.out _; (repeat refine up1 ?_); refine blk_far ?_ NB410_427.out _; (repeat refine up1 ?_); refine blk_far ?_ NB410_427.out _; (repeat refine up1 ?_); refine blk_far ?_ NB410_427.out _; (repeat refine up1 ?_); refine blk_far ?_ NB410_427.out _; (repeat refine up1 ?_); exact BK410.out⟩
   have n6_ : Aside0 ((((((w16.setCell ⟨gb427, 0, none⟩ (.slice Ao17 t413.length co17)).setCell ⟨gb427, 1, none⟩ (.slice Ao21 t416.length co21)).setCell ⟨gb427, 2, none⟩ (.int .i64 t419)).setCell ⟨gb427, 3, none⟩ (.slice Ao22 t420.length co22)).setCell ⟨gb427, 4, none⟩ (.slice Ao23 t423.length co23)).heap[gb427]? = some (.cells #[.slice Ao17 t413.length co17, .slice Ao21 t416.length co21, .int .i64 t419, .slice Ao22 t420.length co22, .slice Ao23 t423.length co23] 95 (0, 0))) := ⟨by (repeat refine up1 ?_); refine blk_put (cs := #[.slice Ao17 t413.length co17, .slice Ao21 t416.length co21, .int .i64 t419, .slice Ao22 t420.length co22, .slice none 0 0]) ?_ 4 _ rfl; (repeat refine up1 ?_); refine blk_put (cs := #[.slice Ao17 t413.length co17, .slice Ao21 t416.length co21, .int .i64 t419, .slice none 0 0, .slice none 0 0]) ?_ 3 _ rfl; (repeat refine up1 ?_); refine blk_put (cs := #[.slice Ao17 t413.length co17, .slice Ao21 t416.length co21, .int .i64 0, .slice none 0 0, .slice none 0 0]) ?_ 2 _ rfl; (repeat refine up1 ?_); refine blk_put (cs := #[.slice Ao17 t413.length co17, .slice none 0 0, .int .i64 0, .slice none 0 0, .slice none 0 0]) ?_ 1 _ rfl; (repeat refine up1 ?_); refine blk_put (cs := #[.slice none 0 0, .slice none 0 0, .int .i64 0, .slice none 0 0, .slice none 0 0]) ?_ 0 _ rfl; (repeat refine up1 ?_); exact BK427.out⟩
   have n7_ : Aside0 (Below w.heap.size w (((((w16.setCell ⟨gb427, 0, none⟩ (.slice Ao17 t413.length co17)).setCell ⟨gb427, 1, none⟩ (.slice Ao21 t416.length co21)).setCell ⟨gb427, 2, none⟩ (.int .i64 t419)).setCell ⟨gb427, 3, none⟩ (.slice Ao22 t420.length co22)).setCell ⟨gb427, 4, none⟩ (.slice Ao23 t423.length co23))) := ⟨uH HB.out⟩
   (try clear HO415); (try clear HO418); (try clear HO422); (try clear HO425); (try clear BK409); (try clear BK410); (try clear BK427); (try clear HB)
   generalize (((((w16.setCell ⟨gb427, 0, none⟩ (.slice Ao17 t413.length co17)).setCell ⟨gb427, 1, none⟩ (.slice Ao21 t416.length co21)).setCell ⟨gb427, 2, none⟩ (.int .i64 t419)).setCell ⟨gb427, 3, none⟩ (.slice Ao22 t420.length co22)).setCell ⟨gb427, 4, none⟩ (.slice Ao23 t423.length co23)) = w26 at n0_ n1_ n2_ n3_ n4_ n5_ n6_ n7_ ⊢
   have HO415 := n0_
   have HO418 := n1_
   have HO422 := n2_
   have HO425 := n3_
   have BK409 := n4_
   have BK410 := n5_
   have BK427 := n6_
   have HB := n7_
   clear n0_ n1_ n2_ n3_ n4_ n5_ n6_ n7_
   replace HO415 := zA (Kd.N_drew HO415.out)
   replace HO418 := zA (Kd.R_drew HO418.out)
   replace HO422 := zA (Kd.R_drew HO422.out)
   replace HO425 := zA (Kd.R_drew HO425.out)
   replace BK409 := zA (blk_drew BK409.out)
   replace BK410 := zA (blk_drew BK410.out)
   replace BK427 := zA (blk_drew BK427.out)
   replace HB := zA (below_drew1 HB.out)
   refine start_ (n := 11) (S := fun w' => w'.cell? ⟨gb409, 0, none⟩ = some (.int .i64 a0_0) ∧ w'.cell? ⟨gb409, 1, none⟩ = some (.slice A0_1 l0_1.length c0_1) ∧ w'.cell? ⟨gb410, 0, none⟩ = some (.int .i64 a1)) (ds := []) #[false, false, false, false, false, false, false, false, false, false, false] (by kernel_rfl) rfl rfl ⟨bcu BK409 0, bcu BK409 1, bcu BK410 0⟩ (fun hHeld => ?_); refine with_tabW impl_NormOf.tab5 impl_NormOf.bits5 (fun HT_ HW_ => ?_)
   generalize w26.drew = w27 at HO415 HO418 HO422 HO425 BK409 BK410 BK427 HB hHeld ⊢
   refine pu_ 0 21 (bl 11 1) HT_ ?_
   refine pu_ 1 22 (bl 11 3) HT_ ?_
   refine pu_ 2 23 (bl 11 7) HT_ ?_
   refine pu_ 3 24 (bl 11 15) HT_ ?_
   refine ta_ 4 25 (bl 11 31) HT_ HW_ hHeld ?_
   refine ta_ 6 27 (bl 11 95) HT_ HW_ hHeld ?_
   refine pu_ 7 28 (bl 11 223) HT_ ?_
   refine pu_ 8 29 (bl 11 479) HT_ ?_
   refine on_ 5 (some 26) (bl 11 511) HT_ (fun K hK => ?_)
   refine gS Try.func71 #[.slice A0_1 l0_1.length c0_1] ?_
   with_reducible refine (impl_length_int64.calls _ _ l0_1 t428 _ ?side1 ?side2 A25.out).mono ?_
   (case side1 => exact uC ((Kd.C_below HR0_1.out HB.out)))
   (case side2 => exact HC0_1.out)
   rintro e w' ⟨rfl, ⟨nd, rfl⟩⟩
   refine ⟨_, rfl, ?_⟩
   refine hK.out _ _ ⟨bcu BK409 0, bcu BK409 1, bcu BK410 0⟩ (fun hHeld => ?_)
   clear hK K
   refine no_ 26 ?_
   refine pu_ 9 30 (bl 11 1023) HT_ ?_
   refine pu_ 10 31 (bl 11 2047) HT_ ?_
   refine done_ (done_of HT_.out (by kernel_rfl)) ?_
   try go_wp2
   go_meet
   case rel => exact ⟨_, (decide (t428 < (wrap64 ((wrap64 (2 * a1)) + 1)))), (by first | rfl | (simp; done) | (simp [*]; done)), H', ⟨by first | omega | exact Nat.le_refl _⟩, ⟨by (with_reducible repeat (first | apply Kd.N_alloc | apply Kd.N_drewN | apply Kd.N_drew)); exact HO415.out⟩, ⟨uR HO418.out⟩, ⟨uR HO422.out⟩, ⟨uR HO425.out⟩, ⟨uB BK409.out⟩, ⟨uB BK410.out⟩, ⟨uB BK427.out⟩, ⟨uH HB.out⟩⟩
  ·replace c24 := Bool.eq_false_iff.mpr c24
   subst c24
   have H1 : (impl_NormOf.j0 k true a0_0 l0_1 a1 t413 t416 t419 t420 t423) = some (r1, r2) := by rw [if_neg (show ¬ (false = true) by decide)] at H; exact H
   clear H
   have H := H1
   clear H1
   have H' := zA H
   clear H
   try go_wp2
   have n0_ : Aside0 (Kd.N (Kd.slice 2 (Kd.int .i64)) 22 (((((w16.setCell ⟨gb427, 0, none⟩ (.slice Ao17 t413.length co17)).setCell ⟨gb427, 1, none⟩ (.slice Ao21 t416.length co21)).setCell ⟨gb427, 2, none⟩ (.int .i64 t419)).setCell ⟨gb427, 3, none⟩ (.slice Ao22 t420.length co22)).setCell ⟨gb427, 4, none⟩ (.slice Ao23 t423.length co23)) w.heap.size (fun k_ => ax k_ (.slice Ao21 t416.length co21) ∧ ax k_ (.slice Ao22 t420.length co22) ∧ ax k_ (.slice Ao23 t423.length co23) ∧ k_ ≠ gb409 ∧ k_ ≠ gb410 ∧ k_ ≠ gb427) (.slice Ao17 t413.length co17) t413) := ⟨by (with_reducible repeat (first | apply Kd.N_alloc | apply Kd.N_drewN | apply Kd.N_drew)); exact Kd.N_mono (Kd.N_far (p := ⟨gb427, 4, none⟩) (Kd.N_far (p := ⟨gb427, 3, none⟩) (Kd.N_far (p := ⟨gb427, 2, none⟩) (Kd.N_far (p := ⟨gb427, 1, none⟩) (Kd.N_far (p := ⟨gb427, 0, none⟩) (Kd.N_mono HO415.out (fun k_ hk => (⟨hk, hk.2⟩ : _ ∧ k_ ≠ gb427))) (fun _ hk => hk.2) (.slice Ao17 t413.length co17)) (fun _ hk => hk.2) (.slice Ao21 t416.length co21)) (fun _ hk => hk.2) (.int .i64 t419)) (fun _ hk => hk.2) (.slice Ao22 t420.length co22)) (fun _ hk => hk.2) (.slice Ao23 t423.length co23)) (fun _ hk => ⟨hk.1.1.1, ⟨hk.1.1.2.1, ⟨hk.1.1.2.2.1, ⟨hk.1.1.2.2.2.1, ⟨hk.1.1.2.2.2.2, hk.1.2⟩⟩⟩⟩⟩)⟩
   have n1_ : Aside0 (Kd.R (Kd.int .i64) 2 (((((w16.setCell ⟨gb427, 0, none⟩ (.slice Ao17 t413.length co17)).setCell ⟨gb427, 1, none⟩ (.slice Ao21 t416.length co21)).setCell ⟨gb427, 2, none⟩ (.int .i64 t419)).setCell ⟨gb427, 3, none⟩ (.slice Ao22 t420.length co22)).setCell ⟨gb427, 4, none⟩ (.slice Ao23 t423.length co23)) w.heap.size (fun k_ => ax k_ (.slice Ao22 t420.length co22) ∧ ax k_ (.slice Ao23 t423.length co23) ∧ k_ ≠ gb410) (.slice Ao21 t416.length co21) t416) := ⟨uR (Kd.R_mono (Kd.R_far (p := ⟨gb427, 4, none⟩) (Kd.R_far (p := ⟨gb427, 3, none⟩) (Kd.R_far (p := ⟨gb427, 2, none⟩) (Kd.R_far (p := ⟨gb427, 1, none⟩) (Kd.R_far (p := ⟨gb427, 0, none⟩) (Kd.R_types HO418.out BK427.out (by decide)) (fun _ hk => hk.2) (.slice Ao17 t413.length co17)) (fun _ hk => hk.2) (.slice Ao21 t416.length co21)) (fun _ hk => hk.2) (.int .i64 t419)) (fun _ hk => hk.2) (.slice Ao22 t420.length co22)) (fun _ hk => hk.2) (.slice Ao23 t423.length co23)) (fun _ hk => ⟨hk.1.1.1, ⟨hk.1.1.2, hk.1.2⟩⟩))⟩
   have n2_ : Aside0 (Kd.R (Kd.int .i64) 2 (((((w16.setCell ⟨gb427, 0, none⟩ (.slice Ao17 t413.length co17)).setCell ⟨gb427, 1, none⟩ (.slice Ao21 t416.length co21)).setCell ⟨gb427, 2, none⟩ (.int .i64 t419)).setCell ⟨gb427, 3, none⟩ (.slice Ao22 t420.length co22)).setCell ⟨gb427, 4, none⟩ (.slice Ao23 t423.length co23)) w.heap.size (fun k_ => ax k_ (.slice Ao21 t416.length co21) ∧ ax k_ (.slice Ao23 t423.length co23) ∧ k_ ≠ gb410) (.slice Ao22 t420.length co22) t420) := ⟨uR (Kd.R_mono (Kd.R_far (p := ⟨gb427, 4, none⟩) (Kd.R_far (p := ⟨gb427, 3, none⟩) (Kd.R_far (p := ⟨gb427, 2, none⟩) (Kd.R_far (p := ⟨gb427, 1, none⟩) (Kd.R_far (p := ⟨gb427, 0, none⟩) (Kd.R_types HO422.out BK427.out (by decide)) (fun _ hk => hk.2) (.slice Ao17 t413.length co17)) (fun _ hk => hk.2) (.slice Ao21 t416.length co21)) (fun _ hk => hk.2) (.int .i64 t419)) (fun _ hk => hk.2) (.slice Ao22 t420.length co22)) (fun _ hk => hk.2) (.slice Ao23 t423.length co23)) (fun _ hk => ⟨hk.1.1.1, ⟨hk.1.1.2, hk.1.2⟩⟩))⟩
   have n3_ : Aside0 (Kd.R (Kd.int .i64) 2 (((((w16.setCell ⟨gb427, 0, none⟩ (.slice Ao17 t413.length co17)).setCell ⟨gb427, 1, none⟩ (.slice Ao21 t416.length co21)).setCell ⟨gb427, 2, none⟩ (.int .i64 t419)).setCell ⟨gb427, 3, none⟩ (.slice Ao22 t420.length co22)).setCell ⟨gb427, 4, none⟩ (.slice Ao23 t423.length co23)) w.heap.size (fun k_ => ax k_ (.slice Ao21 t416.length co21) ∧ ax k_ (.slice Ao22 t420.length co22) ∧ k_ ≠ gb410) (.slice Ao23 t423.length co23) t423) := ⟨uR (Kd.R_mono (Kd.R_far (p := ⟨gb427, 4, none⟩) (Kd.R_far (p := ⟨gb427, 3, none⟩) (Kd.R_far (p := ⟨gb427, 2, none⟩) (Kd.R_far (p := ⟨gb427, 1, none⟩) (Kd.R_far (p := ⟨gb427, 0, none⟩) (Kd.R_types HO425.out BK427.out (by decide)) (fun _ hk => hk.2) (.slice Ao17 t413.length co17)) (fun _ hk => hk.2) (.slice Ao21 t416.length co21)) (fun _ hk => hk.2) (.int .i64 t419)) (fun _ hk => hk.2) (.slice Ao22 t420.length co22)) (fun _ hk => hk.2) (.slice Ao23 t423.length co23)) (fun _ hk => ⟨hk.1.1.1, ⟨hk.1.1.2, hk.1.2⟩⟩))⟩
   have n4_ : Aside0 ((((((w16.setCell ⟨gb427, 0, none⟩ (.slice Ao17 t413.length co17)).setCell ⟨gb427, 1, none⟩ (.slice Ao21 t416.length co21)).setCell ⟨gb427, 2, none⟩ (.int .i64 t419)).setCell ⟨gb427, 3, none⟩ (.slice Ao22 t420.length co22)).setCell ⟨gb427, 4, none⟩ (.slice Ao23 t423.length co23)).heap[gb409]? = some (.cells #[.int .i64 a0_0, .slice A0_1 l0_1.length c0_1] 40 (0, 0))) := ⟨by (repeat refine up1 ?_); refine blk_far ?_ NB409_427.out _; (repeat refine up1 ?_); refine blk_far ?_ NB409_427.out _; (repeat refine up1 ?_); refine blk_far ?_ NB409_427.out _; (repeat refine up1 ?_); refine blk_far ?_ NB409_427.out _; (repeat refine up1 ?_); refine blk_far ?_ NB409_427.out _; (repeat refine up1 ?_); exact BK409.out⟩
   have n5_ : Aside0 ((((((w16.setCell ⟨gb427, 0, none⟩ (.slice Ao17 t413.length co17)).setCell ⟨gb427, 1, none⟩ (.slice Ao21 t416.length co21)).setCell ⟨gb427, 2, none⟩ (.int .i64 t419)).setCell ⟨gb427, 3, none⟩ (.slice Ao22 t420.length co22)).setCell ⟨gb427, 4, none⟩ (.slice Ao23 t423.length co23)).heap[gb410]? = some (.cells #[.int .i64 a1] 2 (0, 0))) := ⟨by (repeat refine up1 ?_); refine blk_far ?_ NB410_427.out _; (repeat refine up1 ?_); refine blk_far ?_ NB410_427.out _; (repeat refine up1 ?_); refine blk_far ?_ NB410_427.out _; (repeat refine up1 ?_); refine blk_far ?_ NB410_427.out _; (repeat refine up1 ?_); refine blk_far ?_ NB410_427.out _; (repeat refine up1 ?_); exact BK410.out⟩
   have n6_ : Aside0 ((((((w16.setCell ⟨gb427, 0, none⟩ (.slice Ao17 t413.length co17)).setCell ⟨gb427, 1, none⟩ (.slice Ao21 t416.length co21)).setCell ⟨gb427, 2, none⟩ (.int .i64 t419)).setCell ⟨gb427, 3, none⟩ (.slice Ao22 t420.length co22)).setCell ⟨gb427, 4, none⟩ (.slice Ao23 t423.length co23)).heap[gb427]? = some (.cells #[.slice Ao17 t413.length co17, .slice Ao21 t416.length co21, .int .i64 t419, .slice Ao22 t420.length co22, .slice Ao23 t423.length co23] 95 (0, 0))) := ⟨by (repeat refine up1 ?_); refine blk_put (cs := #[.slice Ao17 t413.length co17, .slice Ao21 t416.length co21, .int .i64 t419, .slice Ao22 t420.length co22, .slice none 0 0]) ?_ 4 _ rfl; (repeat refine up1 ?_); refine blk_put (cs := #[.slice Ao17 t413.length co17, .slice Ao21 t416.length co21, .int .i64 t419, .slice none 0 0, .slice none 0 0]) ?_ 3 _ rfl; (repeat refine up1 ?_); refine blk_put (cs := #[.slice Ao17 t413.length co17, .slice Ao21 t416.length co21, .int .i64 0, .slice none 0 0, .slice none 0 0]) ?_ 2 _ rfl; (repeat refine up1 ?_); refine blk_put (cs := #[.slice Ao17 t413.length co17, .slice none 0 0, .int .i64 0, .slice none 0 0, .slice none 0 0]) ?_ 1 _ rfl; (repeat refine up1 ?_); refine blk_put (cs := #[.slice none 0 0, .slice none 0 0, .int .i64 0, .slice none 0 0, .slice none 0 0]) ?_ 0 _ rfl; (repeat refine up1 ?_); exact BK427.out⟩
   have n7_ : Aside0 (Below w.heap.size w (((((w16.setCell ⟨gb427, 0, none⟩ (.slice Ao17 t413.length co17)).setCell ⟨gb427, 1, none⟩ (.slice Ao21 t416.length co21)).setCell ⟨gb427, 2, none⟩ (.int .i64 t419)).setCell ⟨gb427, 3, none⟩ (.slice Ao22 t420.length co22)).setCell ⟨gb427, 4, none⟩ (.slice Ao23 t423.length co23))) := ⟨uH HB.out⟩
   (try clear HO415); (try clear HO418); (try clear HO422); (try clear HO425); (try clear BK409); (try clear BK410); (try clear BK427); (try clear HB)
   generalize (((((w16.setCell ⟨gb427, 0, none⟩ (.slice Ao17 t413.length co17)).setCell ⟨gb427, 1, none⟩ (.slice Ao21 t416.length co21)).setCell ⟨gb427, 2, none⟩ (.int .i64 t419)).setCell ⟨gb427, 3, none⟩ (.slice Ao22 t420.length co22)).setCell ⟨gb427, 4, none⟩ (.slice Ao23 t423.length co23)) = w28 at n0_ n1_ n2_ n3_ n4_ n5_ n6_ n7_ ⊢
   have HO415 := n0_
   have HO418 := n1_
   have HO422 := n2_
   have HO425 := n3_
   have BK409 := n4_
   have BK410 := n5_
   have BK427 := n6_
   have HB := n7_
   clear n0_ n1_ n2_ n3_ n4_ n5_ n6_ n7_
   replace HO415 := zA (Kd.N_drew HO415.out)
   replace HO418 := zA (Kd.R_drew HO418.out)
   replace HO422 := zA (Kd.R_drew HO422.out)
   replace HO425 := zA (Kd.R_drew HO425.out)
   replace BK409 := zA (blk_drew BK409.out)
   replace BK410 := zA (blk_drew BK410.out)
   replace BK427 := zA (blk_drew BK427.out)
   replace HB := zA (below_drew1 HB.out)
   refine start_ (n := 11) (S := fun w' => True) (ds := []) #[false, false, false, false, false, false, false, false, false, false, false] (by kernel_rfl) rfl rfl trivial (fun hHeld => ?_); refine with_tabW impl_NormOf.tab5 impl_NormOf.bits5 (fun HT_ HW_ => ?_)
   generalize w28.drew = w29 at HO415 HO418 HO422 HO425 BK409 BK410 BK427 HB hHeld ⊢
   refine pu_ 0 21 (bl 11 1) HT_ ?_
   refine pu_ 1 22 (bl 11 3) HT_ ?_
   refine pu_ 2 23 (bl 11 7) HT_ ?_
   refine un_ 3 24 (bl 11 15) HT_ ?_
   refine un_ 4 25 (bl 11 31) HT_ ?_
   refine un_ 5 26 (bl 11 63) HT_ ?_
   refine un_ 6 27 (bl 11 127) HT_ ?_
   refine un_ 7 28 (bl 11 255) HT_ ?_
   refine un_ 8 29 (bl 11 511) HT_ ?_
   refine un_ 9 30 (bl 11 1023) HT_ ?_
   refine pu_ 10 31 (bl 11 2047) HT_ ?_
   refine done_ (done_of HT_.out (by kernel_rfl)) ?_
   try go_wp2
   go_meet
   case rel => exact ⟨_, (true), (by first | rfl | (simp; done) | (simp [*]; done)), H', ⟨by first | omega | exact Nat.le_refl _⟩, ⟨by (with_reducible repeat (first | apply Kd.N_alloc | apply Kd.N_drewN | apply Kd.N_drew)); exact HO415.out⟩, ⟨uR HO418.out⟩, ⟨uR HO422.out⟩, ⟨uR HO425.out⟩, ⟨uB BK409.out⟩, ⟨uB BK410.out⟩, ⟨uB BK427.out⟩, ⟨uH HB.out⟩⟩
 case rest =>
  clear HC7
  (try clear c1);(try clear c2);(try clear p2);(try clear c3);(try clear c5);(try clear c5b0);(try clear c5b1);(try clear c6);(try clear p6);(try clear c7);(try clear c8);(try clear c10);(try clear c18);(try clear c19);(try clear c24);(try clear hcz11_0);(try clear hcz11_1);(try clear hcz13_0);(try clear hcz13_1);(try clear hcz14_0);(try clear hcz20_0);(try clear hcz20_1);(try clear hcz20_2);(try clear hcz20_3)
  (try clear hcz20_4);(try clear hfz11_0);(try clear hfz11_1);(try clear hfz13_0);(try clear hfz13_1);(try clear hfz14_0);(try clear hfz20_0);(try clear hfz20_1);(try clear hfz20_2);(try clear hfz20_3);(try clear hfz20_4)
  obtain ⟨kq, x31_6, rfl, HA, HJ6, HO_428000, HO_428001, HO_428003, HO_428004, BK409, BK410, BK427, HB⟩ := hcut
  cases kq with
  | zero => exact absurd HA.out (by simp [impl_NormOf.j0])
  | succ kj6 =>
   have H := HA.out
   clear HA
   simp only [impl_NormOf.j0] at H
   by_cases c30 : x31_6 = true
   ·subst c30
    have H1 : (some (0, 5)) = some (r1, r2) := by rw [if_pos rfl] at H; exact H
    clear H
    have H := H1
    clear H1
    simp only [Option.some.injEq, Prod.mk.injEq] at H
    obtain ⟨rfl, rfl⟩ := H
    go_wp2
    go_ret2
    exact ⟨by first | rfl | (simp [errW_none, errW_some] <;> rfl) | (simp [*, errW_none, errW_some] <;> rfl), uH HB.out⟩
   ·replace c30 := Bool.eq_false_iff.mpr c30
    subst c30
    have H1 : ((impl_Moments_field.f a0_0 l0_1).bind fun t429 => (if 0 ≤ a1 then (if a1 < (t413.length : Int) then ((impl_field_product.f kj6 t429 (rd_L1 t413 a1) (rd_L1 t413 a1)).bind fun t432 => ((impl_Moments_apply.f kj6 a0_0 l0_1 t432).bind fun t435 => (some (t435, 0)))) else (none)) else (none))) = some (r1, r2) := by rw [if_neg (show ¬ (false = true) by decide)] at H; exact H
    clear H
    have H := H1
    clear H1
    replace H := Option.bind_eq_some_iff.mp H
    obtain ⟨t429, A310, H⟩ := H
    replace H : (if 0 ≤ a1 then (if a1 < (t413.length : Int) then ((impl_field_product.f kj6 t429 (rd_L1 t413 a1) (rd_L1 t413 a1)).bind fun t432 => ((impl_Moments_apply.f kj6 a0_0 l0_1 t432).bind fun t435 => (some (t435, 0)))) else (none)) else (none)) = some (r1, r2) := H
    have A31 := zA A310
    clear A310
    by_cases c32 : 0 ≤ a1
    rotate_left
    ·rw [if_neg c32] at H
     exact absurd H (by simp)
    rw [if_pos c32] at H
    have c32b0 : decide (0 ≤ a1) = true := decide_eq_true c32
    clear c32
    by_cases c33 : a1 < (t413.length : Int)
    rotate_left
    ·rw [if_neg c33] at H
     exact absurd H (by simp)
    rw [if_pos c33] at H
    have c33b0 : decide (a1 < (t413.length : Int)) = true := decide_eq_true c33
    clear c33
    replace H := Option.bind_eq_some_iff.mp H
    obtain ⟨t432, A340, H⟩ := H
    replace H : ((impl_Moments_apply.f kj6 a0_0 l0_1 t432).bind fun t435 => (some (t435, 0))) = some (r1, r2) := H
    have A34 := zA A340
    clear A340
    replace H := Option.bind_eq_some_iff.mp H
    obtain ⟨t435, A350, H⟩ := H
    replace H : (some (t435, 0)) = some (r1, r2) := H
    have A35 := zA A350
    clear A350
    simp only [Option.some.injEq, Prod.mk.injEq] at H
    obtain ⟨rfl, rfl⟩ := H
    try go_wp2
    replace HO_428000 := zA (Kd.N_drew HO_428000.out)
    replace HO_428001 := zA (Kd.R_drew HO_428001.out)
    replace HO_428003 := zA (Kd.R_drew HO_428003.out)
    replace HO_428004 := zA (Kd.R_drew HO_428004.out)
    replace BK409 := zA (blk_drew BK409.out)
    replace BK410 := zA (blk_drew BK410.out)
    replace BK427 := zA (blk_drew BK427.out)
    replace HB := zA (below_drew1 HB.out)
    have p430 : 0 ≤ (a1 : Int) := of_decide_eq_true (by first | (with_reducible assumption) | assumption)
    have q430 : a1 < (t413.length : Int) := of_decide_eq_true (by first | (with_reducible assumption) | assumption)
    obtain ⟨ad430, A430_0, c430_0, e430, hx430_0, hl430_0, hi430_0⟩ := at_L1 (Kd.N_reads' HO_428000.out).2.2 a1 p430 q430
    cases e430
    obtain ⟨ce430, hce430, hMe430, hcc430⟩ := Kd.N_get HO_428000.out [] a1 p430 (by first | exact q430 | exact of_decide_eq_true (by first | (with_reducible assumption) | assumption) | (have e_ := (Kd.N_reads' HO_428000.out).1; omega))
    obtain ⟨ua430_0, uc430_0, rfl, ul430_0, ge430_0⟩ := Kd.FK_slice_open hMe430
    have hv430_0 := hcc430 0 _ rfl
    rw [Nat.add_zero, show ((Kd.slice 2 (Kd.int .i64))).sz = 1 from rfl, Nat.mul_one] at hv430_0
    replace hv430_0 := Option.some.inj (hv430_0.symm.trans hx430_0)
    injection hv430_0 with hva_ hvn_ hvc_
    rw [hva_] at ge430_0
    rw [hvc_] at ul430_0
    have HL430_0 := zA (show Kd.V (Kd.int .i64) 2 _ w.heap.size _ _ (rd_L1 t413 a1) from Kd.V_mk ul430_0 ge430_0)
    clear hva_ hvn_ hvc_ ge430_0 ul430_0
    clear hcc430 hce430
    have HR430_0 := zA hi430_0
    have HC430_0 := zA hl430_0
    clear hi430_0 hl430_0
    replace p430 := eq_true p430
    replace q430 := eq_true q430
    have p431 : 0 ≤ (a1 : Int) := of_decide_eq_true (by first | (with_reducible assumption) | assumption)
    have q431 : a1 < (t413.length : Int) := of_decide_eq_true (by first | (with_reducible assumption) | assumption)
    obtain ⟨ad431, A431_0, c431_0, e431, hx431_0, hl431_0, hi431_0⟩ := at_L1 (Kd.N_reads' HO_428000.out).2.2 a1 p431 q431
    obtain rfl : ad430 = ad431 := (by injection e431)
    obtain ⟨ce431, hce431, hMe431, hcc431⟩ := Kd.N_get HO_428000.out [] a1 p431 (by first | exact q431 | exact of_decide_eq_true (by first | (with_reducible assumption) | assumption) | (have e_ := (Kd.N_reads' HO_428000.out).1; omega))
    obtain ⟨ua431_0, uc431_0, rfl, ul431_0, ge431_0⟩ := Kd.FK_slice_open hMe431
    have hv431_0 := hcc431 0 _ rfl
    rw [Nat.add_zero, show ((Kd.slice 2 (Kd.int .i64))).sz = 1 from rfl, Nat.mul_one] at hv431_0
    replace hv431_0 := Option.some.inj (hv431_0.symm.trans hx431_0)
    injection hv431_0 with hva_ hvn_ hvc_
    rw [hva_] at ge431_0
    rw [hvc_] at ul431_0
    have HL431_0 := zA (show Kd.V (Kd.int .i64) 2 _ w.heap.size _ _ (rd_L1 t413 a1) from Kd.V_mk ul431_0 ge431_0)
    clear hva_ hvn_ hvc_ ge431_0 ul431_0
    clear hcc431 hce431
    have HR431_0 := zA hi431_0
    have HC431_0 := zA hl431_0
    clear hi431_0 hl431_0
    replace p431 := eq_true p431
    replace q431 := eq_true q431
    have ea_ := Option.some.inj (hx430_0.symm.trans hx431_0)
    injection ea_ with ea_ en_ ec_
    subst ea_
    subst ec_
    clear en_
    refine start_ (n := 17) (S := fun w' => w'.cell? ⟨gb409, 0, none⟩ = some (.int .i64 a0_0) ∧ w'.cell? ⟨gb409, 1, none⟩ = some (.slice A0_1 l0_1.length c0_1) ∧ w'.cell? ⟨gb427, 0, none⟩ = some (.slice (some ad430) t413.length co17) ∧ w'.cell? ⟨gb427, 1, none⟩ = some (.slice Ao21 t416.length co21) ∧ w'.cell? ⟨gb427, 2, none⟩ = some (.int .i64 t419) ∧ w'.cell? ⟨gb427, 3, none⟩ = some (.slice Ao22 t420.length co22) ∧ w'.cell? ⟨gb427, 4, none⟩ = some (.slice Ao23 t423.length co23) ∧ w'.cell? ⟨gb410, 0, none⟩ = some (.int .i64 a1) ∧ w'.cell? (ad430.add (a1).toNat) = some (.slice A430_0 (rd_L1 t413 a1).length c430_0) ∧ w'.cell? (ad430.add (a1).toNat) = some (.slice A430_0 (rd_L1 t413 a1).length c430_0)) (ds := []) #[false, false, false, false, false, false, false, false, false, false, false, false, false, false, false, false, false] (by kernel_rfl) rfl rfl ⟨bcu BK409 0, bcu BK409 1, bcu BK427 0, bcu BK427 1, bcu BK427 2, bcu BK427 3, bcu BK427 4, bcu BK410 0, hx430_0, hx431_0⟩ (fun hHeld => ?_); refine with_tabW impl_NormOf.tab7 impl_NormOf.bits7 (fun HT_ HW_ => ?_)
    generalize wc.drew = w36 at HO_428000 HO_428001 HO_428003 HO_428004 BK409 BK410 BK427 HB HL430_0 HL431_0 HR430_0 HR431_0 hx430_0 hx431_0 hHeld ⊢
    refine pu_ 3 35 (bl 17 8) HT_ ?_
    refine pu_ 8 40 (bl 17 264) HT_ ?_
    refine ta_ 0 32 (bl 17 265) HT_ HW_ hHeld ?_
    refine ta_ 1 33 (bl 17 267) HT_ HW_ hHeld ?_
    refine ta_ 4 36 (bl 17 283) HT_ HW_ hHeld ?_
    refine ta_ 5 37 (bl 17 315) HT_ HW_ hHeld ?_
    refine pu_ 6 38 (bl 17 379) HT_ ?_
    refine ta_ 7 39 (bl 17 507) HT_ HW_ hHeld ?_
    refine ta_ 9 41 (bl 17 1019) HT_ HW_ hHeld ?_
    refine ta_ 10 42 (bl 17 2043) HT_ HW_ hHeld ?_
    refine pu_ 11 43 (bl 17 4091) HT_ ?_
    refine ta_ 12 44 (bl 17 8187) HT_ HW_ hHeld ?_
    refine on_ 2 (some 34) (bl 17 8191) HT_ (fun K hK => ?_)
    refine gS Try.func75 #[.agg #[.int .i64 a0_0, .slice A0_1 l0_1.length c0_1]] ?_
    with_reducible refine (impl_Moments_field.calls a0_0 _ _ l0_1 t429 _ ?side1 ?side2 A31.out).mono ?_
    (case side1 => exact uC ((Kd.C_below HR0_1.out HB.out)))
    (case side2 => exact HC0_1.out)
    rintro e w37 ⟨rfl, hb⟩
    have HS8_ := (hb.cell (World.block_lt_of_cell? _ _ (hHeld.2.2.2.2.2.2.2.2.1))).trans (hHeld.2.2.2.2.2.2.2.2.1)
    have HS9_ := (hb.cell (World.block_lt_of_cell? _ _ (hHeld.2.2.2.2.2.2.2.2.2))).trans (hHeld.2.2.2.2.2.2.2.2.2)
    refine ⟨_, rfl, ?_⟩
    replace HO_428000 := zA (Kd.N_below (by (with_reducible repeat (first | apply Kd.N_alloc | apply Kd.N_drewN | apply Kd.N_drew)); exact HO_428000.out) hb)
    replace HO_428001 := xR HO_428001 hb
    replace HO_428003 := xR HO_428003 hb
    replace HO_428004 := xR HO_428004 hb
    replace HL430_0 := zA (Kd.V_below (by (with_reducible repeat (first | apply Kd.V_alloc | apply Kd.V_drewN | apply Kd.V_drew)); exact HL430_0.out) hb)
    replace HL431_0 := zA (Kd.V_below (by (with_reducible repeat (first | apply Kd.V_alloc | apply Kd.V_drewN | apply Kd.V_drew)); exact HL431_0.out) hb)
    replace BK409 := xB BK409 hb
    replace BK410 := xB BK410 hb
    replace BK427 := xB BK427 hb
    replace HR430_0 := zA (Kd.C_below (by repeat (first | (with_reducible exact HR430_0.out) | (with_reducible refine Kd.C_alloc ?_ _) | (with_reducible refine Kd.C_drewN ?_ _) | (with_reducible refine Kd.C_drew ?_) | exact HR430_0.out)) hb)
    replace HR431_0 := zA (Kd.C_below (by repeat (first | (with_reducible exact HR431_0.out) | (with_reducible refine Kd.C_alloc ?_ _) | (with_reducible refine Kd.C_drewN ?_ _) | (with_reducible refine Kd.C_drew ?_) | exact HR431_0.out)) hb)
    replace HB := xH HB hb
    (try clear hb); (try clear hb2); (try clear hk); (try clear hi)
    refine hK.out _ _ ⟨bcu BK409 0, bcu BK409 1, bcu BK427 0, bcu BK427 1, bcu BK427 2, bcu BK427 3, bcu BK427 4, bcu BK410 0, HS8_, HS9_⟩ (fun hHeld => ?_)
    clear hK K
    refine no_ 34 ?_
    refine on_ 13 (some 45) (bl 17 16383) HT_ (fun K hK => ?_)
    refine gS Try.func89 #[.int .i64 t429, .slice A430_0 (rd_L1 t413 a1).length c430_0, .slice A430_0 (rd_L1 t413 a1).length c430_0] ?_
    with_reducible refine (impl_field_product.calls kj6 t429 _ _ (rd_L1 t413 a1) _ _ (rd_L1 t413 a1) t432 _ ?side1 ?side2 ?side3 ?side4 A34.out).mono ?_
    (case side1 => repeat (first | exact (by repeat (first | (with_reducible exact HR430_0.out) | (with_reducible refine Kd.C_alloc ?_ _) | (with_reducible refine Kd.C_drewN ?_ _) | (with_reducible refine Kd.C_drew ?_) | exact HR430_0.out)) | (with_reducible refine Kd.C_alloc ?_ _) | (with_reducible refine Kd.C_drewN ?_ _) | (with_reducible refine Kd.C_drew ?_)))
    (case side2 => exact HC430_0.out)
    (case side3 => repeat (first | exact (by repeat (first | (with_reducible exact HR431_0.out) | (with_reducible refine Kd.C_alloc ?_ _) | (with_reducible refine Kd.C_drewN ?_ _) | (with_reducible refine Kd.C_drew ?_) | exact HR431_0.out)) | (with_reducible refine Kd.C_alloc ?_ _) | (with_reducible refine Kd.C_drewN ?_ _) | (with_reducible refine Kd.C_drew ?_)))
    (case side4 => exact HC431_0.out)
    rintro e w38 ⟨v433, rfl, ho0, hb⟩
    have HS8_ := (hb.cell (World.block_lt_of_cell? _ _ (hHeld.2.2.2.2.2.2.2.2.1))).trans (hHeld.2.2.2.2.2.2.2.2.1)
    have HS9_ := (hb.cell (World.block_lt_of_cell? _ _ (hHeld.2.2.2.2.2.2.2.2.2))).trans (hHeld.2.2.2.2.2.2.2.2.2)
    refine ⟨_, rfl, ?_⟩
    replace HO_428000 := zA (Kd.N_elder' (by (with_reducible repeat (first | apply Kd.N_alloc | apply Kd.N_drewN | apply Kd.N_drew)); exact HO_428000.out) (Kd.R_base ho0) hb)
    replace HL430_0 := zA (Kd.V_elder' (by (with_reducible repeat (first | apply Kd.V_alloc | apply Kd.V_drewN | apply Kd.V_drew)); exact HL430_0.out) (Kd.R_base ho0) hb)
    replace HL431_0 := zA (Kd.V_elder' (by (with_reducible repeat (first | apply Kd.V_alloc | apply Kd.V_drewN | apply Kd.V_drew)); exact HL431_0.out) (Kd.R_base ho0) hb)
    have HO434 := zA (Kd.R_lower (Kd.R_newB (Kd.R_new' (Kd.R_new' (Kd.R_new' ho0 (Kd.R_lt (uR HO_428001.out))) (Kd.R_lt (uR HO_428003.out))) (Kd.R_lt (uR HO_428004.out))) (g := gb410) (o := .cells #[.int .i64 a1] 2 (0, 0)) (uB BK410.out)) (below_size (uH HB.out)))
    replace HO_428001 := zA (Kd.R_elder' (uR HO_428001.out) (Kd.R_base ho0) hb)
    replace HO_428003 := zA (Kd.R_elder' (uR HO_428003.out) (Kd.R_base ho0) hb)
    replace HO_428004 := zA (Kd.R_elder' (uR HO_428004.out) (Kd.R_base ho0) hb)
    replace BK409 := xB BK409 hb
    replace BK410 := xB BK410 hb
    replace BK427 := xB BK427 hb
    replace HR430_0 := zA (Kd.C_below (by repeat (first | (with_reducible exact HR430_0.out) | (with_reducible refine Kd.C_alloc ?_ _) | (with_reducible refine Kd.C_drewN ?_ _) | (with_reducible refine Kd.C_drew ?_) | exact HR430_0.out)) hb)
    replace HR431_0 := zA (Kd.C_below (by repeat (first | (with_reducible exact HR431_0.out) | (with_reducible refine Kd.C_alloc ?_ _) | (with_reducible refine Kd.C_drewN ?_ _) | (with_reducible refine Kd.C_drew ?_) | exact HR431_0.out)) hb)
    replace HB := xH HB hb
    (try clear hb); (try clear hb2); (try clear hk); (try clear hi); (try clear ho0)
    obtain ⟨Ao39, co39, eo39⟩ := Kd.R_slice HO434.out
    (first | subst eo39 | (injection eo39 with f1_ f2_ f3_; have f4_ := f1_.symm; have f5_ := f3_.symm; clear f1_ f2_ f3_; subst f4_; subst f5_))
    refine hK.out _ _ ⟨bcu BK409 0, bcu BK409 1, bcu BK427 0, bcu BK427 1, bcu BK427 2, bcu BK427 3, bcu BK427 4, bcu BK410 0, HS8_, HS9_⟩ (fun hHeld => ?_)
    clear hK K
    refine no_ 45 ?_
    refine on_ 14 (some 46) (bl 17 32767) HT_ (fun K hK => ?_)
    refine gS Try.func74 #[.agg #[.int .i64 a0_0, .slice A0_1 l0_1.length c0_1], .slice Ao39 t432.length co39] ?_
    with_reducible refine (impl_Moments_apply.calls kj6 a0_0 _ _ l0_1 _ _ t432 t435 _ ?side1 ?side2 ?side3 ?side4 A35.out).mono ?_
    (case side1 => exact uC ((Kd.C_below HR0_1.out HB.out)))
    (case side2 => exact HC0_1.out)
    (case side3 => exact uC ((Kd.R_reads' HO434.out).2.2))
    (case side4 => exact (Kd.R_reads' HO434.out).2.1)
    rintro e w40 ⟨rfl, hb⟩
    have HS8_ := (hb.cell (World.block_lt_of_cell? _ _ (hHeld.2.2.2.2.2.2.2.2.1))).trans (hHeld.2.2.2.2.2.2.2.2.1)
    have HS9_ := (hb.cell (World.block_lt_of_cell? _ _ (hHeld.2.2.2.2.2.2.2.2.2))).trans (hHeld.2.2.2.2.2.2.2.2.2)
    refine ⟨_, rfl, ?_⟩
    replace HO_428000 := zA (Kd.N_below (by (with_reducible repeat (first | apply Kd.N_alloc | apply Kd.N_drewN | apply Kd.N_drew)); exact HO_428000.out) hb)
    replace HO_428001 := xR HO_428001 hb
    replace HO_428003 := xR HO_428003 hb
    replace HO_428004 := xR HO_428004 hb
    replace HL430_0 := zA (Kd.V_below (by (with_reducible repeat (first | apply Kd.V_alloc | apply Kd.V_drewN | apply Kd.V_drew)); exact HL430_0.out) hb)
    replace HL431_0 := zA (Kd.V_below (by (with_reducible repeat (first | apply Kd.V_alloc | apply Kd.V_drewN | apply Kd.V_drew)); exact HL431_0.out) hb)
    replace HO434 := xR HO434 hb
    replace BK409 := xB BK409 hb
    replace BK410 := xB BK410 hb
    replace BK427 := xB BK427 hb
    replace HR430_0 := zA (Kd.C_below (by repeat (first | (with_reducible exact HR430_0.out) | (with_reducible refine Kd.C_alloc ?_ _) | (with_reducible refine Kd.C_drewN ?_ _) | (with_reducible refine Kd.C_drew ?_) | exact HR430_0.out)) hb)
    replace HR431_0 := zA (Kd.C_below (by repeat (first | (with_reducible exact HR431_0.out) | (with_reducible refine Kd.C_alloc ?_ _) | (with_reducible refine Kd.C_drewN ?_ _) | (with_reducible refine Kd.C_drew ?_) | exact HR431_0.out)) hb)
    replace HB := xH HB hb
    (try clear hb); (try clear hb2); (try clear hk); (try clear hi)
    refine hK.out _ _ ⟨bcu BK409 0, bcu BK409 1, bcu BK427 0, bcu BK427 1, bcu BK427 2, bcu BK427 3, bcu BK427 4, bcu BK410 0, HS8_, HS9_⟩ (fun hHeld => ?_)
    clear hK K
    refine no_ 46 ?_
    refine pu_ 15 4 (bl 17 65535) HT_ ?_
    refine pu_ 16 5 (bl 17 131071) HT_ ?_
    refine done_ (done_of HT_.out (by kernel_rfl)) ?_
    try go_wp2
    go_ret2
    exact ⟨by first | rfl | (simp [errW_none, errW_some] <;> rfl) | (simp [*, errW_none, errW_some] <;> rfl), uH HB.out⟩
end Go.Proofs.Ytfbnkebgdmfcfaa.Pr
