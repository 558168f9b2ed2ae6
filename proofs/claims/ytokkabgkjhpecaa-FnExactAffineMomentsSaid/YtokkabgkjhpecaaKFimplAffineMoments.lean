/- Printed by a program of this session out of the translation: what these functions of the program compute, under the conditions that each theorem names. -/
import Derived.Test.YtokkabgkjhpecaaKAffineMoments1
import Derived.Test.YtokkabgkjhpecaaKAffineMoments2
import Derived.Test.YtokkabgkjhpecaaKAffineMoments5
namespace Go.Proofs.Ytokkabgkjhpecaa.Pr
open Go.RowKit Go.Proofs.YtokkabgkjhpecaaW.PrintWords Go.Proofs.YtokkabgkjhpecaaW.PrintLast Go.Proofs.YtokkabgkjhpecaaW.PrintMore
attribute [local go_sem] max2_int min2_int max_two min_two max_three min_three max_four min_four   -- for this text's walks alone
set_option linter.unusedVariables false
set_option linter.unusedSimpArgs false

/-! ### impl_AffineMoments: function 44 -/
def impl_AffineMoments.l0 : Nat → List Int → List Int → Int → Int → Int → List Int → Int → List Int → Option (Int × List Int × Int)
 | 0, _, _, _, _, _, _, _, _ => none
 | k + 1, x10, x11, x29, x30, x1030000, x1030001, x1036000, x1036001 => if x30 < x29 then ((impl_Moments_apply.f k x1030000 x1030001 x10).bind fun t1045 => (if x1036001.length < 17592186044416 then ((impl_Moments_field.f x1030000 x1030001).bind fun t1049 => ((impl_field_product.f k t1049 x10 x11).bind fun t1050 => (impl_AffineMoments.l0 k t1050 x11 x29 (wrap64 (x30 + 1)) x1030000 x1030001 x1036000 (x1036001 ++ [t1045])))) else (none))) else (some (x1036000, x1036001, 0))
def impl_AffineMoments.f (k : Nat) (a0_0 : Int) (l0_1 : List Int) (a1 : Int) (a2 : Int) : Option (Int × List Int × Int) := (impl_AffineMoments_1.f a0_0 l0_1 a1 a2).bind fun t1033 => ((impl_momentsCode.f k a0_0 l0_1 t1033 ([] : List (List Int))).bind fun t1034 => (if t1034 = 0 then ((impl_trimmed.f k (([a2, a1] : List Int))).bind fun t1042 => (impl_AffineMoments.l0 k (([1] : List Int)) t1042 (l0_1.length : Int) 0 a0_0 l0_1 a0_0 ([] : List Int))) else (some (0, ([] : List Int), t1034))))
theorem impl_AffineMoments.mono_l : ∀ k, (∀ y0 y1 y2 y3 y4 y5 y6 y7, LeO (impl_AffineMoments.l0 k y0 y1 y2 y3 y4 y5 y6 y7) (impl_AffineMoments.l0 (k + 1) y0 y1 y2 y3 y4 y5 y6 y7))
 | 0 => fun _ _ _ _ _ _ _ _ r h => by simp [impl_AffineMoments.l0] at h
 | k + 1 => by
  have ih0 := impl_AffineMoments.mono_l k
  ·intro y0 y1 y2 y3 y4 y5 y6 y7
   unfold impl_AffineMoments.l0
   repeat' first
   | (with_reducible exact ih0 _ _ _ _ _ _ _ _)
   | (with_reducible exact impl_Moments_apply.mono _ _ _ _)
   | (with_reducible exact impl_field_product.mono _ _ _ _)
   | (with_reducible exact impl_momentsCode.mono _ _ _ _ _)
   | (with_reducible exact impl_trimmed.mono _ _)
   | (with_reducible exact LeO.refl _)
   | (with_reducible exact LeO.none _)
   | (with_reducible refine LeO.ite ?_ ?_)
   | (with_reducible refine LeO.bind ?_ (fun _ => ?_))
   | exact ih0 _ _ _ _ _ _ _ _
   | exact impl_Moments_apply.mono _ _ _ _
   | exact impl_field_product.mono _ _ _ _
   | exact impl_momentsCode.mono _ _ _ _ _
   | exact impl_trimmed.mono _ _
   | exact LeO.none _
   | refine LeO.ite ?_ ?_
   | refine LeO.bind ?_ (fun _ => ?_)
theorem impl_AffineMoments.mono : ∀ a0 a1 a2 a3 k, LeO (impl_AffineMoments.f k a0 a1 a2 a3) (impl_AffineMoments.f (k + 1) a0 a1 a2 a3) := by
 intro a0 a1 a2 a3 k
 have ih0 := impl_AffineMoments.mono_l k
 unfold impl_AffineMoments.f
 repeat' first
   | (with_reducible exact ih0 _ _ _ _ _ _ _ _)
   | (with_reducible exact impl_Moments_apply.mono _ _ _ _)
   | (with_reducible exact impl_field_product.mono _ _ _ _)
   | (with_reducible exact impl_momentsCode.mono _ _ _ _ _)
   | (with_reducible exact impl_trimmed.mono _ _)
   | (with_reducible exact LeO.refl _)
   | (with_reducible exact LeO.none _)
   | (with_reducible refine LeO.ite ?_ ?_)
   | (with_reducible refine LeO.bind ?_ (fun _ => ?_))
   | exact ih0 _ _ _ _ _ _ _ _
   | exact impl_Moments_apply.mono _ _ _ _
   | exact impl_field_product.mono _ _ _ _
   | exact impl_momentsCode.mono _ _ _ _ _
   | exact impl_trimmed.mono _ _
   | exact LeO.none _
   | refine LeO.ite ?_ ?_
   | refine LeO.bind ?_ (fun _ => ?_)
def impl_AffineMoments.T8 : Bool × List (List Nat × List Nat) := (true, [([], []), ([0], [0]), ([], []), ([], []), ([2, 3], [2, 3]), ([4], [4]), ([1, 5, 4], [1, 5]), ([0, 1, 2, 3, 4, 5, 6], []), ([7, 6, 6, 0, 1, 2, 3, 4, 5, 6], [6, 7])])
def impl_AffineMoments.B8 : List Nat := [0, 1, 0, 0, 12, 28, 63, 127, 255]
theorem impl_AffineMoments.tab8 : rtab .any (opsOf Try.f44 8) = impl_AffineMoments.T8 := by kernel_rfl
theorem impl_AffineMoments.bits8 : waitsOk impl_AffineMoments.T8.2 impl_AffineMoments.B8 = true := by kernel_rfl
set_option maxHeartbeats 8000000 in
set_option maxRecDepth 100000 in
theorem impl_AffineMoments.calls (k : Nat) (a0_0 : Int) (A0_1 : Option Addr) (c0_1 : Nat) (l0_1 : List Int) (a1 : Int) (a2 : Int) (r1 : Int) (r2 : List Int) (r3 : Int) (w : World) (hr0_1 : Kd.C (Kd.int .i64) w A0_1 l0_1.length l0_1) (hc0_1 : l0_1.length ≤ c0_1) (h : impl_AffineMoments.f k a0_0 l0_1 a1 a2 = some (r1, r2, r3)) :
  Calls Try.prog 44 #[.agg #[.int .i64 a0_0, .slice A0_1 l0_1.length c0_1], .int .i64 a1, .int .i64 a2] w fun e w' => ∃ v1_ : Value, e = .returned (.tuple #[.agg #[.int .i64 r1, v1_], .int .i64 r3]) ∧ Kd.R (Kd.int .i64) 2 w' w.heap.size (fun _ => True) v1_ r2 ∧ Below w.heap.size w w' := by
 have hu31 := Try.underlying31
 have hmf : ∀ (fn_ : Fn) (first_ cap_ : Array Value) (w_ : World), (Instr.makeFunc fn_ first_ cap_).run Try.prog w_ = .ok (.func fn_ first_ cap_) w_ := fun _ _ _ _ => rfl
 have HR0_1 := zA hr0_1
 have HC0_1 := zA hc0_1
 clear hr0_1 hc0_1
 have HB := zA (Below.refl w.heap.size w)
 have H : ((impl_AffineMoments_1.f a0_0 l0_1 a1 a2).bind fun t1033 => ((impl_momentsCode.f k a0_0 l0_1 t1033 ([] : List (List Int))).bind fun t1034 => (if t1034 = 0 then ((impl_trimmed.f k (([a2, a1] : List Int))).bind fun t1042 => (impl_AffineMoments.l0 k (([1] : List Int)) t1042 (l0_1.length : Int) 0 a0_0 l0_1 a0_0 ([] : List Int))) else (some (0, ([] : List Int), t1034))))) = some (r1, r2, r3) := h
 clear h
 replace H := Option.bind_eq_some_iff.mp H
 obtain ⟨t1033, A40, H⟩ := H
 replace H : ((impl_momentsCode.f k a0_0 l0_1 t1033 ([] : List (List Int))).bind fun t1034 => (if t1034 = 0 then ((impl_trimmed.f k (([a2, a1] : List Int))).bind fun t1042 => (impl_AffineMoments.l0 k (([1] : List Int)) t1042 (l0_1.length : Int) 0 a0_0 l0_1 a0_0 ([] : List Int))) else (some (0, ([] : List Int), t1034)))) = some (r1, r2, r3) := H
 have A4 := zA A40
 clear A40
 replace H := Option.bind_eq_some_iff.mp H
 obtain ⟨t1034, A50, H⟩ := H
 replace H : (if t1034 = 0 then ((impl_trimmed.f k (([a2, a1] : List Int))).bind fun t1042 => (impl_AffineMoments.l0 k (([1] : List Int)) t1042 (l0_1.length : Int) 0 a0_0 l0_1 a0_0 ([] : List Int))) else (some (0, ([] : List Int), t1034))) = some (r1, r2, r3) := H
 have A5 := zA A50
 clear A50
 by_cases c6 : t1034 = 0
 rotate_left
 ·rw [if_neg c6] at H
  have c6b0 : (t1034 == 0) = false := beq_eq_false_iff_ne.mpr c6
  have c6b1 : (t1034 != 0) = true := bne_iff_ne.mpr c6
  simp only [Option.some.injEq, Prod.mk.injEq] at H
  obtain ⟨rfl, rfl, rfl⟩ := H
  go_enter Try.func44, Try.ntmps44
  go_wp2_with (first | ((with_reducible refine gate_dst (N := 3) rfl ?_); refine bx 3 #[.int .i64 a0_0, .slice A0_1 l0_1.length c0_1] 31 ?_; intro gb1029 hg w65 hbox hb; have BK1029 := zA (hbox); have GW1029 := gq HB hg; have GE1029 := gq HB hg; replace HB := xH HB hb; have := geI GE1029; clear hb hbox hg) | ((with_reducible refine gate_dst (N := 4) rfl ?_); refine bx 4 #[.int .i64 a1] 2 ?_; intro gb1030 hg w66 hbox hb; have BK1030 := zA (hbox); have GW1030 := gq HB hg; have GE1030 := gq HB hg; replace HB := xH HB hb; have NB1029_1030 := zA ((by rw [hg]; exact neL BK1029 : gb1029 ≠ gb1030)); have NB1030_1029 := zA ((by rw [hg]; exact neG BK1029 : gb1030 ≠ gb1029)); replace BK1029 := xB BK1029 hb; have := geI GE1030; clear hb hbox hg) | ((with_reducible refine gate_dst (N := 5) rfl ?_); refine bx 5 #[.int .i64 a2] 2 ?_; intro gb1031 hg w67 hbox hb; have BK1031 := zA (hbox); have GW1031 := gq HB hg; have GE1031 := gq HB hg; replace HB := xH HB hb; have NB1029_1031 := zA ((by rw [hg]; exact neL BK1029 : gb1029 ≠ gb1031)); have NB1031_1029 := zA ((by rw [hg]; exact neG BK1029 : gb1031 ≠ gb1029)); replace BK1029 := xB BK1029 hb; have NB1030_1031 := zA ((by rw [hg]; exact neL BK1030 : gb1030 ≠ gb1031)); have NB1031_1030 := zA ((by rw [hg]; exact neG BK1030 : gb1031 ≠ gb1030)); replace BK1030 := xB BK1030 hb; have := geI GE1031; clear hb hbox hg) | ((with_reducible refine gate_dst (N := 6) rfl ?_); refine bx 6 #[.int .i64 0, .slice none 0 0] 31 ?_; intro gb1032 hg w68 hbox hb; have BK1032 := zA (hbox); have GW1032 := gq HB hg; have GE1032 := gq HB hg; replace HB := xH HB hb; have NB1029_1032 := zA ((by rw [hg]; exact neL BK1029 : gb1029 ≠ gb1032)); have NB1032_1029 := zA ((by rw [hg]; exact neG BK1029 : gb1032 ≠ gb1029)); replace BK1029 := xB BK1029 hb; have NB1030_1032 := zA ((by rw [hg]; exact neL BK1030 : gb1030 ≠ gb1032)); have NB1032_1030 := zA ((by rw [hg]; exact neG BK1030 : gb1032 ≠ gb1030)); replace BK1030 := xB BK1030 hb; have NB1031_1032 := zA ((by rw [hg]; exact neL BK1031 : gb1031 ≠ gb1032)); have NB1032_1031 := zA ((by rw [hg]; exact neG BK1031 : gb1032 ≠ gb1031)); replace BK1031 := xB BK1031 hb; have := geI GE1032; clear hb hbox hg; have hnb69 := NB1029_1030.out; have hnc69 := NB1030_1029.out; have hnb70 := NB1029_1031.out; have hnc70 := NB1031_1029.out; have hnb71 := NB1029_1032.out; have hnc71 := NB1032_1029.out; have hcz72_0 := bc BK1029 0; have hcz72_1 := bc BK1029 1; have hfz72_0 := bf BK1029 0; have hfz72_1 := bf BK1029 1) | ((with_reducible refine gate_callee (f := 93) rfl ?_); refine gL (some 14) Try.func93 #[.agg #[.int .i64 a0_0, .slice A0_1 l0_1.length c0_1], (.func (.func 99) #[] #[.pointer (some ⟨gb1029, 0, none⟩), .pointer (some ⟨gb1030, 0, none⟩), .pointer (some ⟨gb1031, 0, none⟩)]), .slice none 0 0] ?_; (refine (impl_momentsCode.calls k a0_0 _ _ l0_1 _ t1033 _ _ ([] : List (List Int)) t1034 _ ?side1 ?side2 ?side3 ?side4 ?side5 A5.out).mono ?_); (case side1 => exact uC ((Kd.C_below HR0_1.out HB.out))); (case side2 => exact HC0_1.out); (case side3 => exact FnB.of Try.func99 (by kernel_rfl) rfl (fun W_ hW_ => calls_of_args (args' := #[.pointer (some ⟨gb1029, 0, none⟩), .pointer (some ⟨gb1030, 0, none⟩), .pointer (some ⟨gb1031, 0, none⟩)]) (by simp) ((impl_AffineMoments_1.calls _ a0_0 _ _ l0_1 _ a1 _ a2 _ W_ (blk_below (g := gb1029) (o := .cells #[.int .i64 a0_0, .slice A0_1 l0_1.length c0_1] 31 (0, 0)) (uB BK1029.out) hW_) (Kd.C_below (by exact uC ((Kd.C_below HR0_1.out HB.out))) hW_) (by exact HC0_1.out) (blk_below (g := gb1030) (o := .cells #[.int .i64 a1] 2 (0, 0)) (uB BK1030.out) hW_) (blk_below (g := gb1031) (o := .cells #[.int .i64 a2] 2 (0, 0)) (uB BK1031.out) hW_) A4.out).mono fun e_ W2_ h_ => ⟨h_.1, h_.2⟩))); (case side4 => exact Kd.C_nil _ _); (case side5 => exact Nat.le_refl _); rintro e w73 ⟨rfl, hb⟩; refine ⟨_, rfl, ?_⟩; replace BK1029 := xB BK1029 hb; replace BK1030 := xB BK1030 hb; replace BK1031 := xB BK1031 hb; replace BK1032 := xB BK1032 hb; replace HB := xH HB hb; (try clear hb); (try clear hb2); (try clear hk); (try clear hi); have hnb74 := NB1032_1030.out; have hnc74 := NB1030_1032.out; have hnb75 := NB1032_1031.out; have hnc75 := NB1031_1032.out; have hcz76_0 := bc BK1032 0; have hcz76_1 := bc BK1032 1; have hfz76_0 := bf BK1032 0; have hfz76_1 := bf BK1032 1))
  refine bodyPost_ret (results_ct rfl _ _ gb1032 31 #[.int .i64 0, .slice none 0 0] (0, 0) _ rfl (by (repeat refine up1 ?_); refine blk_put (cs := #[.int .i64 0, .slice none 0 0]) ?_ 1 _ rfl; (repeat refine up1 ?_); refine blk_put (cs := #[.int .i64 0, .slice none 0 0]) ?_ 0 _ rfl; (repeat refine up1 ?_); exact BK1032.out) Try.underlying31 rfl (by kernel_rfl)) rfl ?_
  exact ⟨_, by first | rfl | (simp [errW_none, errW_some] <;> rfl) | (simp [*, errW_none, errW_some] <;> rfl), by first | exact Kd.R_nil _ _ _ _ _ | exact Kd.N_nil _ _ _ _ _ | exact Kd.V_nil _ _ _ _ _ | exact Kd.Q_nil _ _ _ _ _ | exact Kd.S_nil _ _ _ _ _, uH HB.out⟩

 rw [if_pos c6] at H
 have c6b0 : (t1034 == 0) = true := beq_iff_eq.mpr c6
 have c6b1 : (t1034 != 0) = false := bne_eq_false_iff_eq.mpr c6
 clear c6
 obtain ⟨y1036, hy1036⟩ : ∃ y_ : List Int, y_ = (([1] : List Int)) := ⟨_, rfl⟩
 replace H : ((impl_trimmed.f k (([a2, a1] : List Int))).bind fun t1042 => (impl_AffineMoments.l0 k y1036 t1042 (l0_1.length : Int) 0 a0_0 l0_1 a0_0 ([] : List Int))) = some (r1, r2, r3) := by first | (rw [hy1036]; exact H) | exact H
 have Ny1036 := zA hy1036
 clear hy1036
 obtain ⟨y1039, hy1039⟩ : ∃ y_ : List Int, y_ = (([a2, a1] : List Int)) := ⟨_, rfl⟩
 replace H : ((impl_trimmed.f k y1039).bind fun t1042 => (impl_AffineMoments.l0 k y1036 t1042 (l0_1.length : Int) 0 a0_0 l0_1 a0_0 ([] : List Int))) = some (r1, r2, r3) := by first | (rw [hy1039]; exact H) | exact H
 have Ny1039 := zA hy1039
 clear hy1039
 replace H := Option.bind_eq_some_iff.mp H
 obtain ⟨t1042, A70, H⟩ := H
 replace H : (impl_AffineMoments.l0 k y1036 t1042 (l0_1.length : Int) 0 a0_0 l0_1 a0_0 ([] : List Int)) = some (r1, r2, r3) := H
 have A7 := zA A70
 clear A70
 have H' := zA H
 clear H
 go_enter Try.func44, Try.ntmps44
 go_wp2_with (first | ((with_reducible refine gate_dst (N := 3) rfl ?_); refine bx 3 #[.int .i64 a0_0, .slice A0_1 l0_1.length c0_1] 31 ?_; intro gb1029 hg w8 hbox hb; have BK1029 := zA (hbox); have GW1029 := gq HB hg; have GE1029 := gq HB hg; replace HB := xH HB hb; have := geI GE1029; clear hb hbox hg) | ((with_reducible refine gate_dst (N := 4) rfl ?_); refine bx 4 #[.int .i64 a1] 2 ?_; intro gb1030 hg w9 hbox hb; have BK1030 := zA (hbox); have GW1030 := gq HB hg; have GE1030 := gq HB hg; replace HB := xH HB hb; have NB1029_1030 := zA ((by rw [hg]; exact neL BK1029 : gb1029 ≠ gb1030)); have NB1030_1029 := zA ((by rw [hg]; exact neG BK1029 : gb1030 ≠ gb1029)); replace BK1029 := xB BK1029 hb; have := geI GE1030; clear hb hbox hg) | ((with_reducible refine gate_dst (N := 5) rfl ?_); refine bx 5 #[.int .i64 a2] 2 ?_; intro gb1031 hg w10 hbox hb; have BK1031 := zA (hbox); have GW1031 := gq HB hg; have GE1031 := gq HB hg; replace HB := xH HB hb; have NB1029_1031 := zA ((by rw [hg]; exact neL BK1029 : gb1029 ≠ gb1031)); have NB1031_1029 := zA ((by rw [hg]; exact neG BK1029 : gb1031 ≠ gb1029)); replace BK1029 := xB BK1029 hb; have NB1030_1031 := zA ((by rw [hg]; exact neL BK1030 : gb1030 ≠ gb1031)); have NB1031_1030 := zA ((by rw [hg]; exact neG BK1030 : gb1031 ≠ gb1030)); replace BK1030 := xB BK1030 hb; have := geI GE1031; clear hb hbox hg) | ((with_reducible refine gate_dst (N := 6) rfl ?_); refine bx 6 #[.int .i64 0, .slice none 0 0] 31 ?_; intro gb1032 hg w11 hbox hb; have BK1032 := zA (hbox); have GW1032 := gq HB hg; have GE1032 := gq HB hg; replace HB := xH HB hb; have NB1029_1032 := zA ((by rw [hg]; exact neL BK1029 : gb1029 ≠ gb1032)); have NB1032_1029 := zA ((by rw [hg]; exact neG BK1029 : gb1032 ≠ gb1029)); replace BK1029 := xB BK1029 hb; have NB1030_1032 := zA ((by rw [hg]; exact neL BK1030 : gb1030 ≠ gb1032)); have NB1032_1030 := zA ((by rw [hg]; exact neG BK1030 : gb1032 ≠ gb1030)); replace BK1030 := xB BK1030 hb; have NB1031_1032 := zA ((by rw [hg]; exact neL BK1031 : gb1031 ≠ gb1032)); have NB1032_1031 := zA ((by rw [hg]; exact neG BK1031 : gb1032 ≠ gb1031)); replace BK1031 := xB BK1031 hb; have := geI GE1032; clear hb hbox hg; have hnb12 := NB1029_1030.out; have hnc12 := NB1030_1029.out; have hnb13 := NB1029_1031.out; have hnc13 := NB1031_1029.out; have hnb14 := NB1029_1032.out; have hnc14 := NB1032_1029.out; have hcz15_0 := bc BK1029 0; have hcz15_1 := bc BK1029 1; have hfz15_0 := bf BK1029 0; have hfz15_1 := bf BK1029 1) | ((with_reducible refine gate_callee (f := 93) rfl ?_); refine gL (some 14) Try.func93 #[.agg #[.int .i64 a0_0, .slice A0_1 l0_1.length c0_1], (.func (.func 99) #[] #[.pointer (some ⟨gb1029, 0, none⟩), .pointer (some ⟨gb1030, 0, none⟩), .pointer (some ⟨gb1031, 0, none⟩)]), .slice none 0 0] ?_; (refine (impl_momentsCode.calls k a0_0 _ _ l0_1 _ t1033 _ _ ([] : List (List Int)) t1034 _ ?side1 ?side2 ?side3 ?side4 ?side5 A5.out).mono ?_); (case side1 => exact uC ((Kd.C_below HR0_1.out HB.out))); (case side2 => exact HC0_1.out); (case side3 => exact FnB.of Try.func99 (by kernel_rfl) rfl (fun W_ hW_ => calls_of_args (args' := #[.pointer (some ⟨gb1029, 0, none⟩), .pointer (some ⟨gb1030, 0, none⟩), .pointer (some ⟨gb1031, 0, none⟩)]) (by simp) ((impl_AffineMoments_1.calls _ a0_0 _ _ l0_1 _ a1 _ a2 _ W_ (blk_below (g := gb1029) (o := .cells #[.int .i64 a0_0, .slice A0_1 l0_1.length c0_1] 31 (0, 0)) (uB BK1029.out) hW_) (Kd.C_below (by exact uC ((Kd.C_below HR0_1.out HB.out))) hW_) (by exact HC0_1.out) (blk_below (g := gb1030) (o := .cells #[.int .i64 a1] 2 (0, 0)) (uB BK1030.out) hW_) (blk_below (g := gb1031) (o := .cells #[.int .i64 a2] 2 (0, 0)) (uB BK1031.out) hW_) A4.out).mono fun e_ W2_ h_ => ⟨h_.1, h_.2⟩))); (case side4 => exact Kd.C_nil _ _); (case side5 => exact Nat.le_refl _); rintro e w16 ⟨rfl, hb⟩; refine ⟨_, rfl, ?_⟩; replace BK1029 := xB BK1029 hb; replace BK1030 := xB BK1030 hb; replace BK1031 := xB BK1031 hb; replace BK1032 := xB BK1032 hb; replace HB := xH HB hb; (try clear hb); (try clear hb2); (try clear hk); (try clear hi); have hcz17_0 := bc BK1029 0; have hcz17_1 := bc BK1029 1; have hfz17_0 := bf BK1029 0; have hfz17_1 := bf BK1029 1) | ((with_reducible refine gate_dst (N := 9) rfl ?_); refine bx 9 #[.int .i64 0, .slice none 0 0] 31 ?_; intro gb1035 hg w18 hbox hb; have BK1035 := zA (hbox); have GW1035 := gq HB hg; have GE1035 := gq HB hg; replace HB := xH HB hb; have NB1029_1035 := zA ((by rw [hg]; exact neL BK1029 : gb1029 ≠ gb1035)); have NB1035_1029 := zA ((by rw [hg]; exact neG BK1029 : gb1035 ≠ gb1029)); replace BK1029 := xB BK1029 hb; have NB1030_1035 := zA ((by rw [hg]; exact neL BK1030 : gb1030 ≠ gb1035)); have NB1035_1030 := zA ((by rw [hg]; exact neG BK1030 : gb1035 ≠ gb1030)); replace BK1030 := xB BK1030 hb; have NB1031_1035 := zA ((by rw [hg]; exact neL BK1031 : gb1031 ≠ gb1035)); have NB1035_1031 := zA ((by rw [hg]; exact neG BK1031 : gb1035 ≠ gb1031)); replace BK1031 := xB BK1031 hb; have NB1032_1035 := zA ((by rw [hg]; exact neL BK1032 : gb1032 ≠ gb1035)); have NB1035_1032 := zA ((by rw [hg]; exact neG BK1032 : gb1035 ≠ gb1032)); replace BK1032 := xB BK1032 hb; have := geI GE1035; clear hb hbox hg; have hnb19 := NB1035_1029.out; have hnc19 := NB1029_1035.out; have hnb20 := NB1035_1030.out; have hnc20 := NB1030_1035.out; have hnb21 := NB1035_1031.out; have hnc21 := NB1031_1035.out; have hnb22 := NB1035_1032.out; have hnc22 := NB1032_1035.out; have hcz23_0 := bc BK1035 0; have hcz23_1 := bc BK1035 1; have hfz23_0 := bf BK1035 0; have hfz23_1 := bf BK1035 1) | ((with_reducible refine gate_dst (N := 22) rfl ?_); refine Kd.R_lit (Kd.int .i64) _ 2 ?hg (N := 22) ?hd (xs := ([1] : List Int)) (inner := [.int .i64 1]) (ok := fun _ => True) (okp := fun _ => True) ?hr ?hp (fun _ hk => hk) trivial (Below.refl _ _) (Nat.le_refl _) (by simp) ?_; (case hd => rfl); (case hg => rfl); (case hr => first | (go_simp; done) | (go_simp; rfl)); (case hp => exact (Reps.one (show Kd.M (Kd.int .i64) _ _ _ 1 [.int .i64 1] from rfl) (Reps.none _ _))); intro v1037 w24 ho25 hb hg_ hnew_; clear hg_ hnew_; (first | rw [← Ny1036.out] at ho25 | (simp only [Int.reduceToNat] at ho25; rw [← Ny1036.out] at ho25)); have HO1038 := zA (Kd.R_lower (Kd.R_newB (Kd.R_newB ho25 (g := gb1030) (o := .cells #[.int .i64 a1] 2 (0, 0)) (by (repeat refine up1 ?_); refine blk_far ?_ NB1030_1035.out _; (repeat refine up1 ?_); refine blk_far ?_ NB1030_1035.out _; (repeat refine up1 ?_); exact BK1030.out)) (g := gb1031) (o := .cells #[.int .i64 a2] 2 (0, 0)) (by (repeat refine up1 ?_); refine blk_far ?_ NB1031_1035.out _; (repeat refine up1 ?_); refine blk_far ?_ NB1031_1035.out _; (repeat refine up1 ?_); exact BK1031.out)) (below_size (uH HB.out))); replace BK1029 := zA (blk_below (g := gb1029) (o := .cells #[.int .i64 a0_0, .slice A0_1 l0_1.length c0_1] 31 (0, 0)) (by (repeat refine up1 ?_); refine blk_far ?_ NB1029_1035.out _; (repeat refine up1 ?_); refine blk_far ?_ NB1029_1035.out _; (repeat refine up1 ?_); exact BK1029.out) hb); replace BK1030 := zA (blk_below (g := gb1030) (o := .cells #[.int .i64 a1] 2 (0, 0)) (by (repeat refine up1 ?_); refine blk_far ?_ NB1030_1035.out _; (repeat refine up1 ?_); refine blk_far ?_ NB1030_1035.out _; (repeat refine up1 ?_); exact BK1030.out) hb); replace BK1031 := zA (blk_below (g := gb1031) (o := .cells #[.int .i64 a2] 2 (0, 0)) (by (repeat refine up1 ?_); refine blk_far ?_ NB1031_1035.out _; (repeat refine up1 ?_); refine blk_far ?_ NB1031_1035.out _; (repeat refine up1 ?_); exact BK1031.out) hb); replace BK1032 := zA (blk_below (g := gb1032) (o := .cells #[.int .i64 0, .slice none 0 0] 31 (0, 0)) (by (repeat refine up1 ?_); refine blk_far ?_ NB1032_1035.out _; (repeat refine up1 ?_); refine blk_far ?_ NB1032_1035.out _; (repeat refine up1 ?_); exact BK1032.out) hb); replace BK1035 := zA (blk_below (g := gb1035) (o := .cells #[.int .i64 a0_0, .slice none 0 0] 31 (0, 0)) (by (repeat refine up1 ?_); refine blk_put (cs := #[.int .i64 a0_0, .slice none 0 0]) ?_ 1 _ rfl; (repeat refine up1 ?_); refine blk_put (cs := #[.int .i64 0, .slice none 0 0]) ?_ 0 _ rfl; (repeat refine up1 ?_); exact BK1035.out) hb); replace HB := xH HB hb; clear hb ho25; have hnb26 := NB1031_1030.out; have hnc26 := NB1030_1031.out; have hnb27 := NB1031_1032.out; have hnc27 := NB1032_1031.out; have hcz28_0 := bc BK1031 0; have hfz28_0 := bf BK1031 0; have hnb29 := NB1030_1032.out; have hnc29 := NB1032_1030.out; have hcz30_0 := bc BK1030 0; have hfz30_0 := bf BK1030 0) | ((with_reducible refine gate_dst (N := 25) rfl ?_); refine Kd.R_lit (Kd.int .i64) _ 2 ?hg (N := 25) ?hd (xs := ([a2, a1] : List Int)) (inner := [.int .i64 a2, .int .i64 a1]) (ok := fun _ => True) (okp := fun _ => True) ?hr ?hp (fun _ hk => hk) trivial (Below.refl _ _) (Nat.le_refl _) (by simp) ?_; (case hd => rfl); (case hg => rfl); (case hr => first | (go_simp; done) | (go_simp; rfl)); (case hp => exact (Reps.one (show Kd.M (Kd.int .i64) _ _ _ a2 [.int .i64 a2] from rfl) (Reps.one (show Kd.M (Kd.int .i64) _ _ _ a1 [.int .i64 a1] from rfl) (Reps.none _ _)))); intro v1040 w31 ho32 hb hg_ hnew_; clear hg_ hnew_; (first | rw [← Ny1039.out] at ho32 | (simp only [Int.reduceToNat] at ho32; rw [← Ny1039.out] at ho32)); have HO1041 := zA (Kd.R_lower (Kd.R_newB (Kd.R_newB (Kd.R_new' ho32 (Kd.R_lt (uR HO1038.out))) (g := gb1030) (o := .cells #[.int .i64 a1] 2 (0, 0)) (uB BK1030.out)) (g := gb1031) (o := .cells #[.int .i64 a2] 2 (0, 0)) (uB BK1031.out)) (below_size (uH HB.out))); replace HO1038 := zA (Kd.R_elder' (uR HO1038.out) (Kd.R_base ho32) hb); replace BK1029 := xB BK1029 hb; replace BK1030 := xB BK1030 hb; replace BK1031 := xB BK1031 hb; replace BK1032 := xB BK1032 hb; replace BK1035 := xB BK1035 hb; replace HB := xH HB hb; clear hb ho32; obtain ⟨Ao33, co33, eo33⟩ := Kd.R_slice HO1041.out; subst eo33) | ((with_reducible refine gate_callee (f := 101) rfl ?_); refine gL (some 26) Try.func101 #[.slice Ao33 y1039.length co33] ?_; (with_reducible refine (impl_trimmed.calls k (fun k_ => some k_ = (.slice Ao33 y1039.length co33 : Value).ownBlock) (.slice Ao33 y1039.length co33) y1039 t1042 w _ ?side1 ?side2 A7.out).mono ?_); (case side1 => repeat (first | (with_reducible first | exact HB.out | apply below_alloc | apply pw_below_drewN | apply below_drew1 | refine below_set ?_ GE1029.out | refine below_set ?_ GE1030.out | refine below_set ?_ GE1031.out | refine below_set ?_ GE1032.out | refine below_set ?_ GE1035.out) | exact HB.out)); (case side2 => exact Kd.R_tight rfl HO1041.out); rintro e w34 ⟨v1043, rfl, ho0, hb, hkp⟩; refine ⟨_, rfl, ?_⟩; replace BK1029 := zA (blk_kept (uB BK1029.out) hkp (fun hs_ => (fun e_ => (Kd.R_ne HO1041.out BK1029.out (by decide)) e_) hs_)); replace BK1032 := zA (blk_kept (uB BK1032.out) hkp (fun hs_ => (fun e_ => (Kd.R_ne HO1041.out BK1032.out (by decide)) e_) hs_)); replace BK1035 := zA (blk_kept (uB BK1035.out) hkp (fun hs_ => (fun e_ => (Kd.R_ne HO1041.out BK1035.out (by decide)) e_) hs_)); have HO1044 := zA (Kd.R_mono (ok' := fun k_ => some k_ ≠ (v1037 : Value).ownBlock ∧ k_ ≠ gb1030 ∧ k_ ≠ gb1031) ho0 (fun k_ hk_ => ⟨Or.elim hk_ (fun hs_ => fun e_ => (((HO1038.out).1 k_ e_.symm).2) hs_) (fun hn_ => (Kd.fresh' (Kd.R_lt (uR HO1038.out)) k_ hn_)), Or.elim hk_ (fun hs_ => fun e_ => (Kd.R_away HO1041.out (fun _ hk => hk.1.2)) (by rw [← e_]; exact hs_)) (fun hn_ => (Kd.freshB (g := gb1030) (o := .cells #[.int .i64 a1] 2 (0, 0)) (uB BK1030.out) k_ hn_)), Or.elim hk_ (fun hs_ => fun e_ => (Kd.R_away HO1041.out (fun _ hk => hk.2)) (by rw [← e_]; exact hs_)) (fun hn_ => (Kd.freshB (g := gb1031) (o := .cells #[.int .i64 a2] 2 (0, 0)) (uB BK1031.out) k_ hn_))⟩)); replace BK1030 := zA (blk_kept (uB BK1030.out) hkp (fun hs_ => (fun e_ => (Kd.R_away HO1041.out (fun _ hk => hk.1.2)) e_) hs_)); replace BK1031 := zA (blk_kept (uB BK1031.out) hkp (fun hs_ => (fun e_ => (Kd.R_away HO1041.out (fun _ hk => hk.2)) e_) hs_)); replace HO1038 := zA (Kd.R_mono (ok' := fun k_ => k_ ≠ gb1030 ∧ k_ ≠ gb1031 ∧ some k_ ≠ (v1043 : Value).ownBlock) (Kd.R_keptB (HO1038.out) hkp (fun k_ hk_ hs_ => (hk_.2) hs_)) (fun k_ hk_ => ⟨hk_.1.1.1.2, hk_.1.1.2, fun e_ => Or.elim (ho0.1 k_ e_.symm) (fun hs_ => hk_.2.1 hs_) (fun hn_ => Nat.not_le.2 hk_.2.2 hn_)⟩)); replace HB := zA (hb); clear HO1041; (try clear hb); (try clear hkp); (try clear ho0); have hcz35_0 := bc BK1029 0; have hcz35_1 := bc BK1029 1; have hfz35_0 := bf BK1029 0; have hfz35_1 := bf BK1029 1))
 go_loopg [10, 30] k (fun kq v10 v30 w' => ∃ (x10_1 : List Int) (x30_1 : Int) (x1036001_1 : List Int) (u1036001 : Value), v30 = .int .i64 x30_1 ∧ Aside0 (impl_AffineMoments.l0 kq x10_1 t1042 (l0_1.length : Int) x30_1 a0_0 l0_1 a0_0 x1036001_1 = some (r1, r2, r3)) ∧ Aside0 (kq ≤ k) ∧ Aside0 (Kd.R (Kd.int .i64) 2 w' w.heap.size (fun k_ => some k_ ≠ (v1043 : Value).ownBlock ∧ some k_ ≠ (u1036001 : Value).ownBlock ∧ k_ ≠ gb1030 ∧ k_ ≠ gb1031) v10 x10_1) ∧ Aside0 (Kd.R (Kd.int .i64) 2 w' w.heap.size (fun k_ => some k_ ≠ (v10 : Value).ownBlock ∧ some k_ ≠ (u1036001 : Value).ownBlock ∧ k_ ≠ gb1030 ∧ k_ ≠ gb1031) v1043 t1042) ∧ Aside0 (Kd.R (Kd.int .i64) 2 w' w.heap.size (fun k_ => some k_ ≠ (v10 : Value).ownBlock ∧ some k_ ≠ (v1043 : Value).ownBlock ∧ k_ ≠ gb1030 ∧ k_ ≠ gb1031) u1036001 x1036001_1) ∧ Aside0 (w'.heap[gb1029]? = some (.cells #[.int .i64 a0_0, (.slice A0_1 l0_1.length c0_1)] 31 (0, 0))) ∧ Aside0 (w'.heap[gb1030]? = some (.cells #[.int .i64 a1] 2 (0, 0))) ∧ Aside0 (w'.heap[gb1031]? = some (.cells #[.int .i64 a2] 2 (0, 0))) ∧ Aside0 (w'.heap[gb1032]? = some (.cells #[.int .i64 0, (.slice none 0 0)] 31 (0, 0))) ∧ Aside0 (w'.heap[gb1035]? = some (.cells #[.int .i64 a0_0, u1036001] 31 (0, 0))) ∧ Aside0 (Below w.heap.size w w'))
 case atStart => exact ⟨(y1036), (0), (([] : List Int)), (.slice none 0 0), (by first | rfl | (simp; done) | (simp [*]; done)), H', ⟨Nat.le_refl _⟩, ⟨uR (Kd.R_mono HO1038.out (fun _ hk => ⟨hk.2.2, ⟨(by simp [Value.ownBlock]), ⟨hk.1, hk.2.1⟩⟩⟩))⟩, ⟨uR (Kd.R_mono HO1044.out (fun _ hk => ⟨hk.1, ⟨(by simp [Value.ownBlock]), ⟨hk.2.1, hk.2.2⟩⟩⟩))⟩, ⟨by first | exact Kd.R_nil _ _ _ _ _ | exact Kd.N_nil _ _ _ _ _ | exact Kd.V_nil _ _ _ _ _ | exact Kd.Q_nil _ _ _ _ _ | exact Kd.S_nil _ _ _ _ _⟩, ⟨uB BK1029.out⟩, ⟨uB BK1030.out⟩, ⟨uB BK1031.out⟩, ⟨uB BK1032.out⟩, ⟨uB BK1035.out⟩, ⟨uH HB.out⟩⟩
 case round =>
  clear H'
  (try clear c1);(try clear c2);(try clear p2);(try clear c4);(try clear c6);(try clear c6b0);(try clear c6b1);(try clear c9);(try clear c10);(try clear c12);(try clear c13);(try clear c14);(try clear c19);(try clear c20);(try clear c21);(try clear c22);(try clear c26);(try clear c27);(try clear c29);(try clear hcz15_0);(try clear hcz15_1);(try clear hcz17_0);(try clear hcz17_1);(try clear hcz23_0)
  (try clear hcz23_1);(try clear hcz28_0);(try clear hcz30_0);(try clear hcz35_0);(try clear hcz35_1);(try clear hfz15_0);(try clear hfz15_1);(try clear hfz17_0);(try clear hfz17_1);(try clear hfz23_0);(try clear hfz23_1);(try clear hfz28_0);(try clear hfz30_0);(try clear hfz35_0);(try clear hfz35_1)
  obtain ⟨x10_1, x30_1, x1036001_1, u1036001, rfl, HA, HK1, HO_10, HO_11, HO_1036001, BK1029, BK1030, BK1031, BK1032, BK1035, HB⟩ := hrel
  cases gk with
  | zero => exact absurd HA.out (by simp [impl_AffineMoments.l0])
  | succ k1 =>
   have H := HA.out
   clear HA
   simp only [impl_AffineMoments.l0] at H
   by_cases c36 : x30_1 < (l0_1.length : Int)
   rotate_left
   ·rw [if_neg c36] at H
    have c36b0 : decide (x30_1 < (l0_1.length : Int)) = false := decide_eq_false c36
    clear c36
    simp only [Option.some.injEq, Prod.mk.injEq] at H
    obtain ⟨rfl, rfl, rfl⟩ := H
    have hnb55 := NB1035_1029.out; have hnc55 := NB1029_1035.out; have hnb56 := NB1035_1030.out; have hnc56 := NB1030_1035.out; have hnb57 := NB1035_1031.out; have hnc57 := NB1031_1035.out; have hnb58 := NB1035_1032.out; have hnc58 := NB1032_1035.out
    have hcz59_0 := bc BK1035 0
    have hcz59_1 := bc BK1035 1
    have hfz59_0 := bf BK1035 0
    have hfz59_1 := bf BK1035 1
    have hnb60 := NB1032_1029.out; have hnc60 := NB1029_1032.out; have hnb61 := NB1032_1030.out; have hnc61 := NB1030_1032.out; have hnb62 := NB1032_1031.out; have hnc62 := NB1031_1032.out
    have hcz63_0 := bc BK1032 0
    have hcz63_1 := bc BK1032 1
    have hfz63_0 := bf BK1032 0
    have hfz63_1 := bf BK1032 1
    obtain ⟨Ao64, co64, eo64⟩ := Kd.R_slice HO_1036001.out
    subst eo64
    go_wp2
    refine bodyPost_ret (results_ct rfl _ _ gb1032 31 #[.int .i64 a0_0, .slice Ao64 x1036001_1.length co64] (0, 0) _ rfl (by (repeat refine up1 ?_); refine blk_put (cs := #[.int .i64 a0_0, .slice none 0 0]) ?_ 1 _ rfl; (repeat refine up1 ?_); refine blk_put (cs := #[.int .i64 0, .slice none 0 0]) ?_ 0 _ rfl; (repeat refine up1 ?_); exact BK1032.out) Try.underlying31 rfl (by kernel_rfl)) rfl ?_
    exact ⟨_, by first | rfl | (simp [errW_none, errW_some] <;> rfl) | (simp [*, errW_none, errW_some] <;> rfl), uR (Kd.R_mono (Kd.R_far (p := ⟨gb1032, 1, none⟩) (Kd.R_far (p := ⟨gb1032, 0, none⟩) (Kd.R_types HO_1036001.out BK1032.out (by decide)) (fun _ hk => hk.2) (.int .i64 a0_0)) (fun _ hk => hk.2) (.slice Ao64 x1036001_1.length co64)) (fun _ hk => trivial)), uH HB.out⟩
   rw [if_pos c36] at H
   have c36b0 : decide (x30_1 < (l0_1.length : Int)) = true := decide_eq_true c36
   clear c36
   replace H := Option.bind_eq_some_iff.mp H
   obtain ⟨t1045, A370, H⟩ := H
   replace H : (if x1036001_1.length < 17592186044416 then ((impl_Moments_field.f a0_0 l0_1).bind fun t1049 => ((impl_field_product.f k1 t1049 x10_1 t1042).bind fun t1050 => (impl_AffineMoments.l0 k1 t1050 t1042 (l0_1.length : Int) (wrap64 (x30_1 + 1)) a0_0 l0_1 a0_0 (x1036001_1 ++ [t1045])))) else (none)) = some (r1, r2, r3) := H
   have A37 := zA A370
   clear A370
   by_cases c38 : x1036001_1.length < 17592186044416
   rotate_left
   ·rw [if_neg c38] at H
    exact absurd H (by simp)
   rw [if_pos c38] at H
   have LMc38 := zA c38
   clear c38
   obtain ⟨y1046, hy1046⟩ : ∃ y_ : List Int, y_ = (x1036001_1 ++ [t1045]) := ⟨_, rfl⟩
   replace H : ((impl_Moments_field.f a0_0 l0_1).bind fun t1049 => ((impl_field_product.f k1 t1049 x10_1 t1042).bind fun t1050 => (impl_AffineMoments.l0 k1 t1050 t1042 (l0_1.length : Int) (wrap64 (x30_1 + 1)) a0_0 l0_1 a0_0 y1046))) = some (r1, r2, r3) := by first | (rw [hy1046]; exact H) | exact H
   have Ny1046 := zA hy1046
   clear hy1046
   replace H := Option.bind_eq_some_iff.mp H
   obtain ⟨t1049, A390, H⟩ := H
   replace H : ((impl_field_product.f k1 t1049 x10_1 t1042).bind fun t1050 => (impl_AffineMoments.l0 k1 t1050 t1042 (l0_1.length : Int) (wrap64 (x30_1 + 1)) a0_0 l0_1 a0_0 y1046)) = some (r1, r2, r3) := H
   have A39 := zA A390
   clear A390
   replace H := Option.bind_eq_some_iff.mp H
   obtain ⟨t1050, A400, H⟩ := H
   replace H : (impl_AffineMoments.l0 k1 t1050 t1042 (l0_1.length : Int) (wrap64 (x30_1 + 1)) a0_0 l0_1 a0_0 y1046) = some (r1, r2, r3) := H
   have A40 := zA A400
   clear A400
   have H' := zA H
   clear H
   try go_wp2
   replace HO_10 := zA (Kd.R_drew HO_10.out)
   replace HO_11 := zA (Kd.R_drew HO_11.out)
   replace HO_1036001 := zA (Kd.R_drew HO_1036001.out)
   replace BK1029 := zA (blk_drew BK1029.out)
   replace BK1030 := zA (blk_drew BK1030.out)
   replace BK1031 := zA (blk_drew BK1031.out)
   replace BK1032 := zA (blk_drew BK1032.out)
   replace BK1035 := zA (blk_drew BK1035.out)
   replace HB := zA (below_drew1 HB.out)
   obtain ⟨Ao42, co42, eo42⟩ := Kd.R_slice HO_10.out
   (first | subst eo42 | (injection eo42 with f1_ f2_ f3_; have f4_ := f1_.symm; have f5_ := f3_.symm; clear f1_ f2_ f3_; subst f4_; subst f5_))
   refine start_ (n := 9) (S := fun w' => w'.cell? ⟨gb1035, 0, none⟩ = some (.int .i64 a0_0) ∧ w'.cell? ⟨gb1035, 1, none⟩ = some (u1036001) ∧ w'.cell? ⟨gb1029, 0, none⟩ = some (.int .i64 a0_0) ∧ w'.cell? ⟨gb1029, 1, none⟩ = some (.slice A0_1 l0_1.length c0_1)) (ds := [8]) #[false, false, false, false, false, false, false, false, false] (by kernel_rfl) rfl rfl ⟨bcu BK1035 0, bcu BK1035 1, bcu BK1029 0, bcu BK1029 1⟩ (fun hHeld => ?_); refine with_tabW impl_AffineMoments.tab8 impl_AffineMoments.bits8 (fun HT_ HW_ => ?_)
   generalize wr.drew = w41 at HO_10 HO_11 HO_1036001 BK1029 BK1030 BK1031 BK1032 BK1035 HB hHeld ⊢
   refine pu_ 0 32 (bl 9 1) HT_ ?_
   refine pu_ 3 35 (bl 9 9) HT_ ?_
   refine ta_ 1 33 (bl 9 11) HT_ HW_ hHeld ?_
   refine ta_ 2 34 (bl 9 15) HT_ HW_ hHeld ?_
   refine on_ 4 (some 36) (bl 9 31) HT_ (fun K hK => ?_)
   refine gS Try.func102 #[.agg #[.int .i64 a0_0, .slice A0_1 l0_1.length c0_1], .slice Ao42 x10_1.length co42] ?_
   with_reducible refine (impl_Moments_apply.calls k1 a0_0 _ _ l0_1 _ _ x10_1 t1045 _ ?side1 ?side2 ?side3 ?side4 A37.out).mono ?_
   (case side1 => exact uC ((Kd.C_below HR0_1.out HB.out)))
   (case side2 => exact HC0_1.out)
   (case side3 => exact uC ((Kd.R_reads' HO_10.out).2.2))
   (case side4 => exact (Kd.R_reads' HO_10.out).2.1)
   rintro e w43 ⟨rfl, hb⟩
   refine ⟨_, rfl, ?_⟩
   replace HO_10 := xR HO_10 hb
   replace HO_11 := xR HO_11 hb
   replace HO_1036001 := xR HO_1036001 hb
   replace BK1029 := xB BK1029 hb
   replace BK1030 := xB BK1030 hb
   replace BK1031 := xB BK1031 hb
   replace BK1032 := xB BK1032 hb
   replace BK1035 := xB BK1035 hb
   replace HB := xH HB hb
   (try clear hb); (try clear hb2); (try clear hk); (try clear hi)
   refine hK.out _ _ ⟨bcu BK1035 0, bcu BK1035 1, bcu BK1029 0, bcu BK1029 1⟩ (fun hHeld => ?_)
   clear hK K
   refine no_ 36 ?_
   refine on_ 5 (some 37) (bl 9 63) HT_ (fun K hK => ?_)
   refine value_ (w1 := ?_) (v := ?_) (by rfl) rfl ?_ ?_
   rotate_left 2
   ·go_simp
    constructor
    ·rfl
    ·rfl
   refine hK.out _ _ ⟨(blk_cell (blk_alloc BK1035.out _) 0).trans rfl, (blk_cell (blk_alloc BK1035.out _) 1).trans rfl, (blk_cell (blk_alloc BK1029.out _) 0).trans rfl, (blk_cell (blk_alloc BK1029.out _) 1).trans rfl⟩ (fun hHeld => ?_)
   clear hK K
   refine no_ 37 ?_
   refine on_ 6 (some 38) (bl 9 127) HT_ (fun K hK => ?_)
   refine Kd.R_append_step (Kd.int .i64) (w0 := w) w.heap.size (by rfl) (.tmp 33) (.tmp 37) 22 2 (.int .i64 0) 8 rfl Try.underlying22 info2 rfl (by decide) (by omega) u1036001 x1036001_1 t1045 [.int .i64 t1045] (fun k_ => ax k_ (.slice Ao42 x10_1.length co42) ∧ some k_ ≠ (v1043 : Value).ownBlock ∧ k_ ≠ gb1030 ∧ k_ ≠ gb1031) (fun _ => False) rfl rfl ?aP (fun _ hk => hk.elim) ?aF ?aO ?aB ?aS ?aL ?_
   (case aP => exact rfl)
   (case aB => exact (uH HB.out))
   (case aF => exact (fun k_ hk => ⟨Kd.fresh' (Kd.R_lt (uR HO_10.out)) k_ hk, Kd.fresh' (Kd.R_lt (uR HO_11.out)) k_ hk, Kd.freshB (g := gb1030) (o := .cells #[.int .i64 a1] 2 (0, 0)) (uB BK1030.out) k_ hk, Kd.freshB (g := gb1031) (o := .cells #[.int .i64 a2] 2 (0, 0)) (uB BK1031.out) k_ hk⟩))
   (case aO => exact (uR HO_1036001.out))
   (case aS => exact (below_size (uH HB.out)))
   (case aL => have := LMc38.out; omega)
   intro v1047 w44 ho hb hg hat
   rw [← Ny1046.out] at ho
   replace HO_10 := zA (Kd.R_after (ok := (fun k_ => some k_ ≠ (v1043 : Value).ownBlock ∧ k_ ≠ gb1030 ∧ k_ ≠ gb1031)) (uR (Kd.R_mono HO_10.out (fun _ hk => ⟨⟨hk.1, ⟨hk.2.2.1, hk.2.2.2⟩⟩, hk.2.1⟩))) hg hat)
   replace HO_11 := zA (Kd.R_after (ok := (fun k_ => ax k_ (.slice Ao42 x10_1.length co42) ∧ k_ ≠ gb1030 ∧ k_ ≠ gb1031)) (uR (Kd.R_mono HO_11.out (fun _ hk => ⟨⟨hk.1, ⟨hk.2.2.1, hk.2.2.2⟩⟩, hk.2.1⟩))) hg hat)
   replace BK1029 := zA (blk_grown (g := gb1029) (o := .cells #[.int .i64 a0_0, .slice A0_1 l0_1.length c0_1] 31 (0, 0)) (uB BK1029.out) hg (Kd.R_ne HO_1036001.out BK1029.out (by decide)))
   replace BK1030 := zA (blk_grown (g := gb1030) (o := .cells #[.int .i64 a1] 2 (0, 0)) (uB BK1030.out) hg (Kd.R_away HO_1036001.out (fun _ hk => hk.2.2.1)))
   replace BK1031 := zA (blk_grown (g := gb1031) (o := .cells #[.int .i64 a2] 2 (0, 0)) (uB BK1031.out) hg (Kd.R_away HO_1036001.out (fun _ hk => hk.2.2.2)))
   replace BK1032 := zA (blk_grown (g := gb1032) (o := .cells #[.int .i64 0, .slice none 0 0] 31 (0, 0)) (uB BK1032.out) hg (Kd.R_ne HO_1036001.out BK1032.out (by decide)))
   replace BK1035 := zA (blk_grown (g := gb1035) (o := .cells #[.int .i64 a0_0, u1036001] 31 (0, 0)) (uB BK1035.out) hg (Kd.R_ne HO_1036001.out BK1035.out (by decide)))
   replace HB := zA (hb)
   have HO1048 := zA (ho)
   clear HO_1036001
   clear ho hb hg hat
   obtain ⟨Ao45, co45, eo45⟩ := Kd.R_slice HO1048.out
   (first | subst eo45 | (injection eo45 with f1_ f2_ f3_; have f4_ := f1_.symm; have f5_ := f3_.symm; clear f1_ f2_ f3_; subst f4_; subst f5_))
   refine hK.out _ _ ⟨bcu BK1035 0, bcu BK1035 1, bcu BK1029 0, bcu BK1029 1⟩ (fun hHeld => ?_)
   clear hK K
   refine no_ 38 ?_
   refine pu_ 7 39 (bl 9 255) HT_ ?_
   refine last_ (i := 8) (N := none) (bl 9 511) rfl rfl (one_of HT_.out (by kernel_rfl)) (by decide) (fun K hK => ?_)
   have hs46 : w44.cell? ⟨gb1035, 1, none⟩ = some (u1036001) := (blk_cell BK1035.out 1).trans rfl
   have hfs46 := bf BK1035 1
   have hns46_0 := NB1029_1035.out; have hns46_1 := NB1030_1035.out; have hns46_2 := NB1031_1035.out; have hns46_3 := NB1032_1035.out; have hms46_0 := NB1035_1029.out; have hms46_1 := NB1035_1030.out; have hms46_2 := NB1035_1031.out; have hms46_3 := NB1035_1032.out
   refine skip_ (w1 := ?_) (by rfl) rfl ?_ ?_
   rotate_left
   ·go_simp
    rfl
   refine hK.out _ _ ?_
   clear hK K
   refine done_ (done_of HT_.out (by kernel_rfl)) ?_
   have hnb47 := NB1029_1030.out; have hnc47 := NB1030_1029.out; have hnb48 := NB1029_1031.out; have hnc48 := NB1031_1029.out; have hnb49 := NB1029_1032.out; have hnc49 := NB1032_1029.out; have hnb50 := NB1029_1035.out; have hnc50 := NB1035_1029.out
   have hcz51_0 := bc BK1029 0
   have hcz51_1 := bc BK1029 1
   have hfz51_0 := bf BK1029 0
   have hfz51_1 := bf BK1029 1
   try go_wp2_with (first | ((with_reducible refine gate_callee (f := 100) rfl ?_); refine gL (some 41) Try.func100 #[.agg #[.int .i64 a0_0, .slice A0_1 l0_1.length c0_1]] ?_; (with_reducible refine (impl_Moments_field.calls a0_0 _ _ l0_1 t1049 _ ?side1 ?side2 A39.out).mono ?_); (case side1 => exact Kd.C_below HR0_1.out (uH HB.out)); (case side2 => exact HC0_1.out); rintro e w52 ⟨rfl, hb⟩; refine ⟨_, rfl, ?_⟩; replace HO_10 := zA (Kd.R_below (uR ((Kd.R_mono (Kd.R_far (p := ⟨gb1035, 1, none⟩) (Kd.R_types HO_10.out BK1035.out (by decide)) (fun _ hk => hk.2) (.slice Ao45 y1046.length co45)) (fun _ h_ => h_.1)))) hb); replace HO_11 := zA (Kd.R_below (uR ((Kd.R_mono (Kd.R_far (p := ⟨gb1035, 1, none⟩) (Kd.R_types HO_11.out BK1035.out (by decide)) (fun _ hk => hk.2) (.slice Ao45 y1046.length co45)) (fun _ h_ => h_.1)))) hb); replace HO1048 := zA (Kd.R_below (uR ((Kd.R_mono (Kd.R_far (p := ⟨gb1035, 1, none⟩) (Kd.R_types HO1048.out BK1035.out (by decide)) (fun _ hk => hk.2) (.slice Ao45 y1046.length co45)) (fun _ h_ => h_.1)))) hb); replace BK1029 := zA (blk_below (g := gb1029) (o := .cells #[.int .i64 a0_0, .slice A0_1 l0_1.length c0_1] 31 (0, 0)) (by (repeat refine up1 ?_); refine blk_far ?_ NB1029_1035.out _; (repeat refine up1 ?_); exact BK1029.out) hb); replace BK1030 := zA (blk_below (g := gb1030) (o := .cells #[.int .i64 a1] 2 (0, 0)) (by (repeat refine up1 ?_); refine blk_far ?_ NB1030_1035.out _; (repeat refine up1 ?_); exact BK1030.out) hb); replace BK1031 := zA (blk_below (g := gb1031) (o := .cells #[.int .i64 a2] 2 (0, 0)) (by (repeat refine up1 ?_); refine blk_far ?_ NB1031_1035.out _; (repeat refine up1 ?_); exact BK1031.out) hb); replace BK1032 := zA (blk_below (g := gb1032) (o := .cells #[.int .i64 0, .slice none 0 0] 31 (0, 0)) (by (repeat refine up1 ?_); refine blk_far ?_ NB1032_1035.out _; (repeat refine up1 ?_); exact BK1032.out) hb); replace BK1035 := zA (blk_below (g := gb1035) (o := .cells #[.int .i64 a0_0, .slice Ao45 y1046.length co45] 31 (0, 0)) (by (repeat refine up1 ?_); refine blk_put (cs := #[.int .i64 a0_0, u1036001]) ?_ 1 _ rfl; (repeat refine up1 ?_); exact BK1035.out) hb); replace HB := xH HB hb; (try clear hb); (try clear hb2); (try clear hk); (try clear hi); obtain ⟨Ao53, co53, eo53⟩ := Kd.R_slice HO_11.out; subst eo53) | ((with_reducible refine gate_callee (f := 103) rfl ?_); refine gL (some 44) Try.func103 #[.int .i64 t1049, .slice Ao42 x10_1.length co42, .slice Ao53 t1042.length co53] ?_; (with_reducible refine (impl_field_product.calls k1 t1049 _ _ x10_1 _ _ t1042 t1050 _ ?side1 ?side2 ?side3 ?side4 A40.out).mono ?_); (case side1 => exact uC ((Kd.R_reads' HO_10.out).2.2)); (case side2 => exact (Kd.R_reads' HO_10.out).2.1); (case side3 => exact uC ((Kd.R_reads' HO_11.out).2.2)); (case side4 => exact (Kd.R_reads' HO_11.out).2.1); rintro e w54 ⟨v1051, rfl, ho0, hb⟩; refine ⟨_, rfl, ?_⟩; have HO1052 := zA (Kd.R_lower (Kd.R_newB (Kd.R_newB (Kd.R_new' (Kd.R_new' (Kd.R_new' ho0 (Kd.R_lt (uR HO_10.out))) (Kd.R_lt (uR HO_11.out))) (Kd.R_lt (uR HO1048.out))) (g := gb1030) (o := .cells #[.int .i64 a1] 2 (0, 0)) (uB BK1030.out)) (g := gb1031) (o := .cells #[.int .i64 a2] 2 (0, 0)) (uB BK1031.out)) (below_size (uH HB.out))); replace HO_10 := zA (Kd.R_elder' (uR HO_10.out) (Kd.R_base ho0) hb); replace HO_11 := zA (Kd.R_elder' (uR HO_11.out) (Kd.R_base ho0) hb); replace HO1048 := zA (Kd.R_elder' (uR HO1048.out) (Kd.R_base ho0) hb); replace BK1029 := xB BK1029 hb; replace BK1030 := xB BK1030 hb; replace BK1031 := xB BK1031 hb; replace BK1032 := xB BK1032 hb; replace BK1035 := xB BK1035 hb; replace HB := xH HB hb; (try clear hb); (try clear hb2); (try clear hk); (try clear hi); (try clear ho0)))
   go_roundg k1
   case measure => have := HK1.out; omega
   case rel => exact ⟨(t1050), (wrap64 (x30_1 + 1)), (y1046), (.slice Ao45 y1046.length co45), (by first | rfl | (simp; done) | (simp [*]; done)), H', ⟨by have := HK1.out; omega⟩, ⟨uR (Kd.R_mono HO1052.out (fun _ hk => ⟨hk.1.1.1.2, ⟨hk.1.1.2, ⟨hk.1.2, hk.2⟩⟩⟩))⟩, ⟨uR (Kd.R_mono HO_11.out (fun _ hk => ⟨hk.2, ⟨hk.1.2, ⟨hk.1.1.2.1, hk.1.1.2.2⟩⟩⟩))⟩, ⟨uR (Kd.R_mono HO1048.out (fun _ hk => ⟨hk.2, ⟨hk.1.2.1, ⟨hk.1.2.2.1, hk.1.2.2.2⟩⟩⟩))⟩, ⟨uB BK1029.out⟩, ⟨uB BK1030.out⟩, ⟨uB BK1031.out⟩, ⟨uB BK1032.out⟩, ⟨uB BK1035.out⟩, ⟨uH HB.out⟩⟩
end Go.Proofs.Ytokkabgkjhpecaa.Pr
