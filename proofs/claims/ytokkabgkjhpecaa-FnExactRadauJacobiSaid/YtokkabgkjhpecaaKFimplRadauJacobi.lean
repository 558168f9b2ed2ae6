/- Printed by a program of this session out of the translation: what these functions of the program compute, under the conditions that each theorem names. -/
import Derived.Test.YtokkabgkjhpecaaKC01
import Derived.Test.YtokkabgkjhpecaaKC07
import Derived.Test.YtokkabgkjhpecaaKC03
import Derived.Test.YtokkabgkjhpecaaKRadauJacobi1
namespace Go.Proofs.Ytokkabgkjhpecaa.Pr
open Go.RowKit Go.Proofs.YtokkabgkjhpecaaW.PrintWords Go.Proofs.YtokkabgkjhpecaaW.PrintLast Go.Proofs.YtokkabgkjhpecaaW.PrintMore
attribute [local go_sem] max2_int min2_int max_two min_two max_three min_three max_four min_four   -- for this text's walks alone
set_option linter.unusedVariables false
set_option linter.unusedSimpArgs false

/-! ### impl_RadauJacobi: function 35 -/
def impl_RadauJacobi.f (k : Nat) (a0_0 : Int) (l0_1 : List Int) (l0_2 : List Int) (a1 : Int) : Option (Int × List Int × List Int × Int) := (impl_Jacobi_field.f a0_0 l0_1 l0_2).bind fun t780 => ((impl_field_has.f t780 a1).bind fun t781 => ((impl_jacobiCode.f k a0_0 l0_1 l0_2 t781).bind fun t782 => (if t782 = 0 then ((impl_Jacobi_field.f a0_0 l0_1 l0_2).bind fun t783 => ((impl_Jacobi_size.f a0_0 l0_1 l0_2).bind fun t784 => ((impl_Jacobi_polys.f k a0_0 l0_1 l0_2).bind fun t785 => (if 0 ≤ (wrap64 (t784 - 1)) then (if (wrap64 (t784 - 1)) < (t785.length : Int) then ((impl_field_value.f t783 (rd_L1 t785 (wrap64 (t784 - 1))) a1).bind fun t789 => (if t789 = 0 then (some (0, ([] : List Int), ([] : List Int), 5)) else ((impl_Jacobi_part.f a0_0 l0_1 l0_2 0 t784).bind fun bt790 => (if (wrap64 (t784 - 1)) < (bt790.2.1.length : Int) then ((some (bt790.2.1.set ((wrap64 (t784 - 1)) : Int).toNat a1 : List Int)).bind fun y798 => (if t784 > 1 then (if (wrap64 (t784 - 1)) < (l0_2.length : Int) then (if 0 ≤ (wrap64 (t784 - 2)) then (if (wrap64 (t784 - 2)) < (t785.length : Int) then ((impl_field_value.f t783 (rd_L1 t785 (wrap64 (t784 - 2))) a1).bind fun t801 => ((impl_field_div.f k t783 t801 t789).bind fun t802 => ((impl_field_mul.f t783 (rd l0_2 (wrap64 (t784 - 1))) t802).bind fun t803 => ((impl_field_mod.f t783 (wrap64 (a1 - t803))).bind fun t804 => (some (bt790.1, (y798.set ((wrap64 (t784 - 1)) : Int).toNat t804), bt790.2.2, 0)))))) else (none)) else (none)) else (none)) else (some (bt790.1, y798, bt790.2.2, 0)))) else (none))))) else (none)) else (none))))) else (some (0, ([] : List Int), ([] : List Int), t782)))))
theorem impl_RadauJacobi.mono : ∀ a0 a1 a2 a3 k, LeO (impl_RadauJacobi.f k a0 a1 a2 a3) (impl_RadauJacobi.f (k + 1) a0 a1 a2 a3) := by
 intro a0 a1 a2 a3 k
 unfold impl_RadauJacobi.f
 repeat' first
   | (with_reducible exact impl_Jacobi_polys.mono _ _ _ _)
   | (with_reducible exact impl_field_div.mono _ _ _ _)
   | (with_reducible exact impl_jacobiCode.mono _ _ _ _ _)
   | (with_reducible exact LeO.refl _)
   | (with_reducible exact LeO.none _)
   | (with_reducible refine LeO.ite ?_ ?_)
   | (with_reducible refine LeO.bind ?_ (fun _ => ?_))
   | exact impl_Jacobi_polys.mono _ _ _ _
   | exact impl_field_div.mono _ _ _ _
   | exact impl_jacobiCode.mono _ _ _ _ _
   | exact LeO.none _
   | refine LeO.ite ?_ ?_
   | refine LeO.bind ?_ (fun _ => ?_)
def impl_RadauJacobi.T4 : Bool × List (List Nat × List Nat) := (true, [([], []), ([0], [0]), ([], []), ([2, 1], [2]), ([], []), ([4, 3], [4]), ([1, 5, 0, 1], [1]), ([3, 6, 0, 1, 2, 3, 6], [3]), ([5, 7, 0, 1, 2, 3, 4, 5, 6, 7], [5])])
def impl_RadauJacobi.B4 : List Nat := [0, 1, 0, 7, 0, 31, 63, 127, 255]
theorem impl_RadauJacobi.tab4 : rtab .any (opsOf Try.f35 4) = impl_RadauJacobi.T4 := by kernel_rfl
theorem impl_RadauJacobi.bits4 : waitsOk impl_RadauJacobi.T4.2 impl_RadauJacobi.B4 = true := by kernel_rfl
def impl_RadauJacobi.T11 : Bool × List (List Nat × List Nat) := (true, [([], []), ([0], [0]), ([], []), ([2], [2]), ([], []), ([], []), ([], []), ([], []), ([7], [7]), ([], []), ([9], [9]), ([8, 10], [8, 10]), ([11], [11]), ([], []), ([], []), ([], []), ([], []), ([16], [16]), ([15, 17], [15, 17]), ([18], [18]), ([], []), ([14, 19, 20], [14, 19, 20]), ([], []), ([13, 21, 22, 21], [13, 21, 22]), ([6, 12, 23, 23], [6, 12, 23]), ([5, 24], [5, 24]), ([4, 25, 24], [4, 25]), ([1, 3, 0, 1, 2, 3, 4, 5, 6, 7, 8, 9, 10, 11, 12, 13, 14, 15, 16, 17, 18, 19, 20, 21, 22, 23, 24, 25, 26], [1, 3]), ([27, 26, 26, 0, 1, 2, 3, 4, 5, 6, 7, 8, 9, 10, 11, 12, 13, 14, 15, 16, 17, 18, 19, 20, 21, 22, 23, 24, 25, 26], [26, 27])])
def impl_RadauJacobi.B11 : List Nat := [0, 1, 0, 4, 0, 0, 0, 0, 128, 0, 512, 1920, 3968, 0, 0, 0, 0, 65536, 229376, 491520, 0, 2080768, 0, 8380416, 16777152, 33554400, 67108848, 134217727, 268435455]
theorem impl_RadauJacobi.tab11 : rtab .any (opsOf Try.f35 11) = impl_RadauJacobi.T11 := by kernel_rfl
theorem impl_RadauJacobi.bits11 : waitsOk impl_RadauJacobi.T11.2 impl_RadauJacobi.B11 = true := by kernel_rfl
set_option maxHeartbeats 8000000 in
set_option maxRecDepth 100000 in
theorem impl_RadauJacobi.calls (k : Nat) (a0_0 : Int) (A0_1 : Option Addr) (c0_1 : Nat) (l0_1 : List Int) (A0_2 : Option Addr) (c0_2 : Nat) (l0_2 : List Int) (a1 : Int) (r1 : Int) (r2 : List Int) (r3 : List Int) (r4 : Int) (w : World) (hr0_1 : Kd.C (Kd.int .i64) w A0_1 l0_1.length l0_1) (hc0_1 : l0_1.length ≤ c0_1) (hr0_2 : Kd.C (Kd.int .i64) w A0_2 l0_2.length l0_2) (hc0_2 : l0_2.length ≤ c0_2) (h : impl_RadauJacobi.f k a0_0 l0_1 l0_2 a1 = some (r1, r2, r3, r4)) :
  Calls Try.prog 35 #[.agg #[.int .i64 a0_0, .slice A0_1 l0_1.length c0_1, .slice A0_2 l0_2.length c0_2], .int .i64 a1] w fun e w' => ∃ v1_ v2_ : Value, e = .returned (.tuple #[.agg #[.int .i64 r1, v1_, v2_], .int .i64 r4]) ∧ Kd.R (Kd.int .i64) 2 w' w.heap.size (fun k_ => some k_ ≠ (v2_ : Value).ownBlock) v1_ r2 ∧ Kd.R (Kd.int .i64) 2 w' w.heap.size (fun k_ => some k_ ≠ (v1_ : Value).ownBlock) v2_ r3 ∧ Below w.heap.size w w' := by
 have hu46 := Try.underlying46
 have HR0_1 := zA hr0_1
 have HC0_1 := zA hc0_1
 clear hr0_1 hc0_1
 have HR0_2 := zA hr0_2
 have HC0_2 := zA hc0_2
 clear hr0_2 hc0_2
 have HB := zA (Below.refl w.heap.size w)
 have H : ((impl_Jacobi_field.f a0_0 l0_1 l0_2).bind fun t780 => ((impl_field_has.f t780 a1).bind fun t781 => ((impl_jacobiCode.f k a0_0 l0_1 l0_2 t781).bind fun t782 => (if t782 = 0 then ((impl_Jacobi_field.f a0_0 l0_1 l0_2).bind fun t783 => ((impl_Jacobi_size.f a0_0 l0_1 l0_2).bind fun t784 => ((impl_Jacobi_polys.f k a0_0 l0_1 l0_2).bind fun t785 => (if 0 ≤ (wrap64 (t784 - 1)) then (if (wrap64 (t784 - 1)) < (t785.length : Int) then ((impl_field_value.f t783 (rd_L1 t785 (wrap64 (t784 - 1))) a1).bind fun t789 => (if t789 = 0 then (some (0, ([] : List Int), ([] : List Int), 5)) else ((impl_Jacobi_part.f a0_0 l0_1 l0_2 0 t784).bind fun bt790 => (if (wrap64 (t784 - 1)) < (bt790.2.1.length : Int) then ((some (bt790.2.1.set ((wrap64 (t784 - 1)) : Int).toNat a1 : List Int)).bind fun y798 => (if t784 > 1 then (if (wrap64 (t784 - 1)) < (l0_2.length : Int) then (if 0 ≤ (wrap64 (t784 - 2)) then (if (wrap64 (t784 - 2)) < (t785.length : Int) then ((impl_field_value.f t783 (rd_L1 t785 (wrap64 (t784 - 2))) a1).bind fun t801 => ((impl_field_div.f k t783 t801 t789).bind fun t802 => ((impl_field_mul.f t783 (rd l0_2 (wrap64 (t784 - 1))) t802).bind fun t803 => ((impl_field_mod.f t783 (wrap64 (a1 - t803))).bind fun t804 => (some (bt790.1, (y798.set ((wrap64 (t784 - 1)) : Int).toNat t804), bt790.2.2, 0)))))) else (none)) else (none)) else (none)) else (some (bt790.1, y798, bt790.2.2, 0)))) else (none))))) else (none)) else (none))))) else (some (0, ([] : List Int), ([] : List Int), t782)))))) = some (r1, r2, r3, r4) := h
 clear h
 replace H := Option.bind_eq_some_iff.mp H
 obtain ⟨t780, A30, H⟩ := H
 replace H : ((impl_field_has.f t780 a1).bind fun t781 => ((impl_jacobiCode.f k a0_0 l0_1 l0_2 t781).bind fun t782 => (if t782 = 0 then ((impl_Jacobi_field.f a0_0 l0_1 l0_2).bind fun t783 => ((impl_Jacobi_size.f a0_0 l0_1 l0_2).bind fun t784 => ((impl_Jacobi_polys.f k a0_0 l0_1 l0_2).bind fun t785 => (if 0 ≤ (wrap64 (t784 - 1)) then (if (wrap64 (t784 - 1)) < (t785.length : Int) then ((impl_field_value.f t783 (rd_L1 t785 (wrap64 (t784 - 1))) a1).bind fun t789 => (if t789 = 0 then (some (0, ([] : List Int), ([] : List Int), 5)) else ((impl_Jacobi_part.f a0_0 l0_1 l0_2 0 t784).bind fun bt790 => (if (wrap64 (t784 - 1)) < (bt790.2.1.length : Int) then ((some (bt790.2.1.set ((wrap64 (t784 - 1)) : Int).toNat a1 : List Int)).bind fun y798 => (if t784 > 1 then (if (wrap64 (t784 - 1)) < (l0_2.length : Int) then (if 0 ≤ (wrap64 (t784 - 2)) then (if (wrap64 (t784 - 2)) < (t785.length : Int) then ((impl_field_value.f t783 (rd_L1 t785 (wrap64 (t784 - 2))) a1).bind fun t801 => ((impl_field_div.f k t783 t801 t789).bind fun t802 => ((impl_field_mul.f t783 (rd l0_2 (wrap64 (t784 - 1))) t802).bind fun t803 => ((impl_field_mod.f t783 (wrap64 (a1 - t803))).bind fun t804 => (some (bt790.1, (y798.set ((wrap64 (t784 - 1)) : Int).toNat t804), bt790.2.2, 0)))))) else (none)) else (none)) else (none)) else (some (bt790.1, y798, bt790.2.2, 0)))) else (none))))) else (none)) else (none))))) else (some (0, ([] : List Int), ([] : List Int), t782))))) = some (r1, r2, r3, r4) := H
 have A3 := zA A30
 clear A30
 replace H := Option.bind_eq_some_iff.mp H
 obtain ⟨t781, A40, H⟩ := H
 replace H : ((impl_jacobiCode.f k a0_0 l0_1 l0_2 t781).bind fun t782 => (if t782 = 0 then ((impl_Jacobi_field.f a0_0 l0_1 l0_2).bind fun t783 => ((impl_Jacobi_size.f a0_0 l0_1 l0_2).bind fun t784 => ((impl_Jacobi_polys.f k a0_0 l0_1 l0_2).bind fun t785 => (if 0 ≤ (wrap64 (t784 - 1)) then (if (wrap64 (t784 - 1)) < (t785.length : Int) then ((impl_field_value.f t783 (rd_L1 t785 (wrap64 (t784 - 1))) a1).bind fun t789 => (if t789 = 0 then (some (0, ([] : List Int), ([] : List Int), 5)) else ((impl_Jacobi_part.f a0_0 l0_1 l0_2 0 t784).bind fun bt790 => (if (wrap64 (t784 - 1)) < (bt790.2.1.length : Int) then ((some (bt790.2.1.set ((wrap64 (t784 - 1)) : Int).toNat a1 : List Int)).bind fun y798 => (if t784 > 1 then (if (wrap64 (t784 - 1)) < (l0_2.length : Int) then (if 0 ≤ (wrap64 (t784 - 2)) then (if (wrap64 (t784 - 2)) < (t785.length : Int) then ((impl_field_value.f t783 (rd_L1 t785 (wrap64 (t784 - 2))) a1).bind fun t801 => ((impl_field_div.f k t783 t801 t789).bind fun t802 => ((impl_field_mul.f t783 (rd l0_2 (wrap64 (t784 - 1))) t802).bind fun t803 => ((impl_field_mod.f t783 (wrap64 (a1 - t803))).bind fun t804 => (some (bt790.1, (y798.set ((wrap64 (t784 - 1)) : Int).toNat t804), bt790.2.2, 0)))))) else (none)) else (none)) else (none)) else (some (bt790.1, y798, bt790.2.2, 0)))) else (none))))) else (none)) else (none))))) else (some (0, ([] : List Int), ([] : List Int), t782)))) = some (r1, r2, r3, r4) := H
 have A4 := zA A40
 clear A40
 replace H := Option.bind_eq_some_iff.mp H
 obtain ⟨t782, A50, H⟩ := H
 replace H : (if t782 = 0 then ((impl_Jacobi_field.f a0_0 l0_1 l0_2).bind fun t783 => ((impl_Jacobi_size.f a0_0 l0_1 l0_2).bind fun t784 => ((impl_Jacobi_polys.f k a0_0 l0_1 l0_2).bind fun t785 => (if 0 ≤ (wrap64 (t784 - 1)) then (if (wrap64 (t784 - 1)) < (t785.length : Int) then ((impl_field_value.f t783 (rd_L1 t785 (wrap64 (t784 - 1))) a1).bind fun t789 => (if t789 = 0 then (some (0, ([] : List Int), ([] : List Int), 5)) else ((impl_Jacobi_part.f a0_0 l0_1 l0_2 0 t784).bind fun bt790 => (if (wrap64 (t784 - 1)) < (bt790.2.1.length : Int) then ((some (bt790.2.1.set ((wrap64 (t784 - 1)) : Int).toNat a1 : List Int)).bind fun y798 => (if t784 > 1 then (if (wrap64 (t784 - 1)) < (l0_2.length : Int) then (if 0 ≤ (wrap64 (t784 - 2)) then (if (wrap64 (t784 - 2)) < (t785.length : Int) then ((impl_field_value.f t783 (rd_L1 t785 (wrap64 (t784 - 2))) a1).bind fun t801 => ((impl_field_div.f k t783 t801 t789).bind fun t802 => ((impl_field_mul.f t783 (rd l0_2 (wrap64 (t784 - 1))) t802).bind fun t803 => ((impl_field_mod.f t783 (wrap64 (a1 - t803))).bind fun t804 => (some (bt790.1, (y798.set ((wrap64 (t784 - 1)) : Int).toNat t804), bt790.2.2, 0)))))) else (none)) else (none)) else (none)) else (some (bt790.1, y798, bt790.2.2, 0)))) else (none))))) else (none)) else (none))))) else (some (0, ([] : List Int), ([] : List Int), t782))) = some (r1, r2, r3, r4) := H
 have A5 := zA A50
 clear A50
 by_cases c6 : t782 = 0
 rotate_left
 ·rw [if_neg c6] at H
  have c6b0 : (t782 == 0) = false := beq_eq_false_iff_ne.mpr c6
  have c6b1 : (t782 != 0) = true := bne_iff_ne.mpr c6
  simp only [Option.some.injEq, Prod.mk.injEq] at H
  obtain ⟨rfl, rfl, rfl, rfl⟩ := H
  go_enter Try.func35, Try.ntmps35
  try go_wp2_with (first | ((with_reducible refine gate_dst (N := 2) rfl ?_); refine bx 2 #[.int .i64 a0_0, .slice A0_1 l0_1.length c0_1, .slice A0_2 l0_2.length c0_2] 46 ?_; intro gb778 hg w97 hbox hb; have BK778 := zA (hbox); have GW778 := gq HB hg; have GE778 := gq HB hg; replace HB := xH HB hb; have := geI GE778; clear hb hbox hg) | ((with_reducible refine gate_dst (N := 4) rfl ?_); refine bx 4 #[.int .i64 0, .slice none 0 0, .slice none 0 0] 46 ?_; intro gb779 hg w98 hbox hb; have BK779 := zA (hbox); have GW779 := gq HB hg; have GE779 := gq HB hg; replace HB := xH HB hb; have NB778_779 := zA ((by rw [hg]; exact neL BK778 : gb778 ≠ gb779)); have NB779_778 := zA ((by rw [hg]; exact neG BK778 : gb779 ≠ gb778)); replace BK778 := xB BK778 hb; have := geI GE779; clear hb hbox hg))
  replace BK778 := zA (blk_drew BK778.out)
  replace BK779 := zA (blk_drew BK779.out)
  replace HB := zA (below_drew1 HB.out)
  refine start_ (n := 7) (S := fun w' => w'.cell? ⟨gb778, 0, none⟩ = some (.int .i64 a0_0) ∧ w'.cell? ⟨gb778, 1, none⟩ = some (.slice A0_1 l0_1.length c0_1) ∧ w'.cell? ⟨gb778, 2, none⟩ = some (.slice A0_2 l0_2.length c0_2)) (ds := []) #[false, false, false, false, false, false, false] (by kernel_rfl) rfl rfl ⟨bcu BK778 0, bcu BK778 1, bcu BK778 2⟩ (fun hHeld => ?_)
  generalize w98.drew = w99 at BK778 BK779 HB hHeld ⊢
  refine pure_ (i := 3) (N := some 15) (v := ?_) (a' := ?_) (bl 7 8) rfl rfl (by kernel_rfl) (fun _ _ _ h => h) (Or.inl ⟨by rfl, ?_⟩) ?_ ?_
  rotate_left
  ·intro w'
   go_simp
   with_reducible rfl
  rotate_left
  ·simp only [Act.put, ls, lz, ln, i64_w, i32_w]
   rfl
  refine take_ (i := 0) (N := some 12) (v := ?_) (a' := ?_) (bl 7 9) rfl rfl (by kernel_rfl) (fun _ _ _ h => h) (Or.inl ⟨by rfl, ?_⟩) hHeld ?_ ?_
  rotate_left
  ·rintro w' ⟨s0, s1, s2⟩
   go_simp
   with_reducible rfl
  rotate_left
  ·simp only [Act.put, ls, lz, ln, i64_w, i32_w]
   rfl
  refine take_ (i := 1) (N := some 13) (v := ?_) (a' := ?_) (bl 7 11) rfl rfl (by kernel_rfl) (fun _ _ _ h => h) (Or.inl ⟨by rfl, ?_⟩) hHeld ?_ ?_
  rotate_left
  ·rintro w' ⟨s0, s1, s2⟩
   go_simp
   with_reducible rfl
  rotate_left
  ·simp only [Act.put, ls, lz, ln, i64_w, i32_w]
   rfl
  refine one_ (i := 2) (N := some 14) (bl 7 15) rfl rfl (by kernel_rfl) (by decide) (fun K hK => ?_)
  refine gS Try.func76 #[.agg #[.int .i64 a0_0, .slice A0_1 l0_1.length c0_1, .slice A0_2 l0_2.length c0_2]] ?_
  with_reducible refine (impl_Jacobi_field.calls a0_0 _ _ l0_1 _ _ l0_2 t780 _ ?side1 ?side2 ?side3 ?side4 A3.out).mono ?_
  (case side1 => exact uC ((Kd.C_below HR0_1.out HB.out)))
  (case side2 => exact HC0_1.out)
  (case side3 => exact uC ((Kd.C_below HR0_2.out HB.out)))
  (case side4 => exact HC0_2.out)
  rintro e w100 ⟨rfl, hb⟩
  refine ⟨_, rfl, ?_⟩
  replace BK778 := xB BK778 hb
  replace BK779 := xB BK779 hb
  replace HB := xH HB hb
  (try clear hb); (try clear hb2); (try clear hk); (try clear hi)
  refine hK.out _ _ ⟨bcu BK778 0, bcu BK778 1, bcu BK778 2⟩ (fun hHeld => ?_)
  clear hK K
  refine no_ 14 ?_
  refine one_ (i := 4) (N := some 16) (bl 7 31) rfl rfl (by kernel_rfl) (by decide) (fun K hK => ?_)
  refine gS Try.func77 #[.int .i64 t780, .int .i64 a1] ?_
  with_reducible refine (impl_field_has.calls t780 a1 t781 _ A4.out).mono ?_
  rintro e w' ⟨rfl, ⟨nd, rfl⟩⟩
  refine ⟨_, rfl, ?_⟩
  refine hK.out _ _ ⟨bcu BK778 0, bcu BK778 1, bcu BK778 2⟩ (fun hHeld => ?_)
  clear hK K
  refine no_ 16 ?_
  refine one_ (i := 5) (N := some 17) (bl 7 63) rfl rfl (by kernel_rfl) (by decide) (fun K hK => ?_)
  refine gS Try.func73 #[.agg #[.int .i64 a0_0, .slice A0_1 l0_1.length c0_1, .slice A0_2 l0_2.length c0_2], .bool t781] ?_
  with_reducible refine (impl_jacobiCode.calls k a0_0 _ _ l0_1 _ _ l0_2 t781 t782 _ ?side1 ?side2 ?side3 ?side4 A5.out).mono ?_
  (case side1 => repeat (first | exact (Kd.C_below HR0_1.out (uH HB.out)) | (with_reducible refine Kd.C_alloc ?_ _) | (with_reducible refine Kd.C_drewN ?_ _) | (with_reducible refine Kd.C_drew ?_)))
  (case side2 => exact HC0_1.out)
  (case side3 => repeat (first | exact (Kd.C_below HR0_2.out (uH HB.out)) | (with_reducible refine Kd.C_alloc ?_ _) | (with_reducible refine Kd.C_drewN ?_ _) | (with_reducible refine Kd.C_drew ?_)))
  (case side4 => exact HC0_2.out)
  rintro e w101 ⟨rfl, hb⟩
  refine ⟨_, rfl, ?_⟩
  replace BK778 := xB BK778 hb
  replace BK779 := xB BK779 hb
  replace HB := xH HB hb
  (try clear hb); (try clear hb2); (try clear hk); (try clear hi)
  refine hK.out _ _ ⟨bcu BK778 0, bcu BK778 1, bcu BK778 2⟩ (fun hHeld => ?_)
  clear hK K
  refine no_ 17 ?_
  refine pure_ (i := 6) (N := some 6) (v := ?_) (a' := ?_) (bl 7 127) rfl rfl (by kernel_rfl) (fun _ _ _ h => h) (Or.inl ⟨by rfl, ?_⟩) ?_ ?_
  rotate_left
  ·intro w'
   go_simp
   with_reducible rfl
  rotate_left
  ·simp only [Act.put, ls, lz, ln, i64_w, i32_w]
   rfl
  refine done_ (by kernel_rfl) ?_
  have hnb102 := NB779_778.out; have hnc102 := NB778_779.out
  have hcz103_0 := bc BK779 0
  have hcz103_1 := bc BK779 1
  have hcz103_2 := bc BK779 2
  have hfz103_0 := bf BK779 0
  have hfz103_1 := bf BK779 1
  have hfz103_2 := bf BK779 2
  try go_wp2
  refine bodyPost_ret (results_ct rfl _ _ gb779 46 #[.int .i64 0, .slice none 0 0, .slice none 0 0] (0, 0) _ rfl (by (repeat refine up1 ?_); refine blk_put (cs := #[.int .i64 0, .slice none 0 0, .slice none 0 0]) ?_ 2 _ rfl; (repeat refine up1 ?_); refine blk_put (cs := #[.int .i64 0, .slice none 0 0, .slice none 0 0]) ?_ 1 _ rfl; (repeat refine up1 ?_); refine blk_put (cs := #[.int .i64 0, .slice none 0 0, .slice none 0 0]) ?_ 0 _ rfl; (repeat refine up1 ?_); exact BK779.out) Try.underlying46 rfl (by kernel_rfl)) rfl ?_
  exact ⟨_, _, by first | rfl | (simp [errW_none, errW_some] <;> rfl) | (simp [*, errW_none, errW_some] <;> rfl), by first | exact Kd.R_nil _ _ _ _ _ | exact Kd.N_nil _ _ _ _ _ | exact Kd.V_nil _ _ _ _ _ | exact Kd.Q_nil _ _ _ _ _ | exact Kd.S_nil _ _ _ _ _, by first | exact Kd.R_nil _ _ _ _ _ | exact Kd.N_nil _ _ _ _ _ | exact Kd.V_nil _ _ _ _ _ | exact Kd.Q_nil _ _ _ _ _ | exact Kd.S_nil _ _ _ _ _, uH HB.out⟩

 rw [if_pos c6] at H
 have c6b0 : (t782 == 0) = true := beq_iff_eq.mpr c6
 have c6b1 : (t782 != 0) = false := bne_eq_false_iff_eq.mpr c6
 clear c6
 replace H := Option.bind_eq_some_iff.mp H
 obtain ⟨t783, A70, H⟩ := H
 replace H : ((impl_Jacobi_size.f a0_0 l0_1 l0_2).bind fun t784 => ((impl_Jacobi_polys.f k a0_0 l0_1 l0_2).bind fun t785 => (if 0 ≤ (wrap64 (t784 - 1)) then (if (wrap64 (t784 - 1)) < (t785.length : Int) then ((impl_field_value.f t783 (rd_L1 t785 (wrap64 (t784 - 1))) a1).bind fun t789 => (if t789 = 0 then (some (0, ([] : List Int), ([] : List Int), 5)) else ((impl_Jacobi_part.f a0_0 l0_1 l0_2 0 t784).bind fun bt790 => (if (wrap64 (t784 - 1)) < (bt790.2.1.length : Int) then ((some (bt790.2.1.set ((wrap64 (t784 - 1)) : Int).toNat a1 : List Int)).bind fun y798 => (if t784 > 1 then (if (wrap64 (t784 - 1)) < (l0_2.length : Int) then (if 0 ≤ (wrap64 (t784 - 2)) then (if (wrap64 (t784 - 2)) < (t785.length : Int) then ((impl_field_value.f t783 (rd_L1 t785 (wrap64 (t784 - 2))) a1).bind fun t801 => ((impl_field_div.f k t783 t801 t789).bind fun t802 => ((impl_field_mul.f t783 (rd l0_2 (wrap64 (t784 - 1))) t802).bind fun t803 => ((impl_field_mod.f t783 (wrap64 (a1 - t803))).bind fun t804 => (some (bt790.1, (y798.set ((wrap64 (t784 - 1)) : Int).toNat t804), bt790.2.2, 0)))))) else (none)) else (none)) else (none)) else (some (bt790.1, y798, bt790.2.2, 0)))) else (none))))) else (none)) else (none)))) = some (r1, r2, r3, r4) := H
 have A7 := zA A70
 clear A70
 replace H := Option.bind_eq_some_iff.mp H
 obtain ⟨t784, A80, H⟩ := H
 replace H : ((impl_Jacobi_polys.f k a0_0 l0_1 l0_2).bind fun t785 => (if 0 ≤ (wrap64 (t784 - 1)) then (if (wrap64 (t784 - 1)) < (t785.length : Int) then ((impl_field_value.f t783 (rd_L1 t785 (wrap64 (t784 - 1))) a1).bind fun t789 => (if t789 = 0 then (some (0, ([] : List Int), ([] : List Int), 5)) else ((impl_Jacobi_part.f a0_0 l0_1 l0_2 0 t784).bind fun bt790 => (if (wrap64 (t784 - 1)) < (bt790.2.1.length : Int) then ((some (bt790.2.1.set ((wrap64 (t784 - 1)) : Int).toNat a1 : List Int)).bind fun y798 => (if t784 > 1 then (if (wrap64 (t784 - 1)) < (l0_2.length : Int) then (if 0 ≤ (wrap64 (t784 - 2)) then (if (wrap64 (t784 - 2)) < (t785.length : Int) then ((impl_field_value.f t783 (rd_L1 t785 (wrap64 (t784 - 2))) a1).bind fun t801 => ((impl_field_div.f k t783 t801 t789).bind fun t802 => ((impl_field_mul.f t783 (rd l0_2 (wrap64 (t784 - 1))) t802).bind fun t803 => ((impl_field_mod.f t783 (wrap64 (a1 - t803))).bind fun t804 => (some (bt790.1, (y798.set ((wrap64 (t784 - 1)) : Int).toNat t804), bt790.2.2, 0)))))) else (none)) else (none)) else (none)) else (some (bt790.1, y798, bt790.2.2, 0)))) else (none))))) else (none)) else (none))) = some (r1, r2, r3, r4) := H
 have A8 := zA A80
 clear A80
 replace H := Option.bind_eq_some_iff.mp H
 obtain ⟨t785, A90, H⟩ := H
 replace H : (if 0 ≤ (wrap64 (t784 - 1)) then (if (wrap64 (t784 - 1)) < (t785.length : Int) then ((impl_field_value.f t783 (rd_L1 t785 (wrap64 (t784 - 1))) a1).bind fun t789 => (if t789 = 0 then (some (0, ([] : List Int), ([] : List Int), 5)) else ((impl_Jacobi_part.f a0_0 l0_1 l0_2 0 t784).bind fun bt790 => (if (wrap64 (t784 - 1)) < (bt790.2.1.length : Int) then ((some (bt790.2.1.set ((wrap64 (t784 - 1)) : Int).toNat a1 : List Int)).bind fun y798 => (if t784 > 1 then (if (wrap64 (t784 - 1)) < (l0_2.length : Int) then (if 0 ≤ (wrap64 (t784 - 2)) then (if (wrap64 (t784 - 2)) < (t785.length : Int) then ((impl_field_value.f t783 (rd_L1 t785 (wrap64 (t784 - 2))) a1).bind fun t801 => ((impl_field_div.f k t783 t801 t789).bind fun t802 => ((impl_field_mul.f t783 (rd l0_2 (wrap64 (t784 - 1))) t802).bind fun t803 => ((impl_field_mod.f t783 (wrap64 (a1 - t803))).bind fun t804 => (some (bt790.1, (y798.set ((wrap64 (t784 - 1)) : Int).toNat t804), bt790.2.2, 0)))))) else (none)) else (none)) else (none)) else (some (bt790.1, y798, bt790.2.2, 0)))) else (none))))) else (none)) else (none)) = some (r1, r2, r3, r4) := H
 have A9 := zA A90
 clear A90
 obtain ⟨ji10, hji10⟩ : ∃ j_ : Int, (wrap64 (t784 - 1)) = j_ := ⟨_, rfl⟩
 replace H : (if 0 ≤ (ji10) then (if (ji10) < (t785.length : Int) then ((impl_field_value.f t783 (rd_L1 t785 (ji10)) a1).bind fun t789 => (if t789 = 0 then (some (0, ([] : List Int), ([] : List Int), 5)) else ((impl_Jacobi_part.f a0_0 l0_1 l0_2 0 t784).bind fun bt790 => (if (ji10) < (bt790.2.1.length : Int) then ((some (bt790.2.1.set ((ji10) : Int).toNat a1 : List Int)).bind fun y798 => (if t784 > 1 then (if (ji10) < (l0_2.length : Int) then (if 0 ≤ (wrap64 (t784 - 2)) then (if (wrap64 (t784 - 2)) < (t785.length : Int) then ((impl_field_value.f t783 (rd_L1 t785 (wrap64 (t784 - 2))) a1).bind fun t801 => ((impl_field_div.f k t783 t801 t789).bind fun t802 => ((impl_field_mul.f t783 (rd l0_2 (ji10)) t802).bind fun t803 => ((impl_field_mod.f t783 (wrap64 (a1 - t803))).bind fun t804 => (some (bt790.1, (y798.set ((ji10) : Int).toNat t804), bt790.2.2, 0)))))) else (none)) else (none)) else (none)) else (some (bt790.1, y798, bt790.2.2, 0)))) else (none))))) else (none)) else (none)) = some (r1, r2, r3, r4) := by first | (rw [hji10] at H; exact H) | (simp only [hji10] at H ⊢; exact H)
 (try rw [hji10] at A3)
 (try rw [hji10] at A4)
 (try rw [hji10] at A5)
 (try rw [hji10] at A7)
 (try rw [hji10] at A8)
 (try rw [hji10] at A9)
 have hji10w : (IntKind.i64.wrap (t784 - 1)) = ji10 := (i64_w _).trans hji10
 by_cases c11 : 0 ≤ (ji10)
 rotate_left
 ·rw [if_neg c11] at H
  exact absurd H (by simp)
 rw [if_pos c11] at H
 have c11b0 : decide (0 ≤ (ji10)) = true := decide_eq_true c11
 clear c11
 by_cases c12 : (ji10) < (t785.length : Int)
 rotate_left
 ·rw [if_neg c12] at H
  exact absurd H (by simp)
 rw [if_pos c12] at H
 have c12b0 : decide ((ji10) < (t785.length : Int)) = true := decide_eq_true c12
 clear c12
 replace H := Option.bind_eq_some_iff.mp H
 obtain ⟨t789, A130, H⟩ := H
 replace H : (if t789 = 0 then (some (0, ([] : List Int), ([] : List Int), 5)) else ((impl_Jacobi_part.f a0_0 l0_1 l0_2 0 t784).bind fun bt790 => (if (ji10) < (bt790.2.1.length : Int) then ((some (bt790.2.1.set ((ji10) : Int).toNat a1 : List Int)).bind fun y798 => (if t784 > 1 then (if (ji10) < (l0_2.length : Int) then (if 0 ≤ (wrap64 (t784 - 2)) then (if (wrap64 (t784 - 2)) < (t785.length : Int) then ((impl_field_value.f t783 (rd_L1 t785 (wrap64 (t784 - 2))) a1).bind fun t801 => ((impl_field_div.f k t783 t801 t789).bind fun t802 => ((impl_field_mul.f t783 (rd l0_2 (ji10)) t802).bind fun t803 => ((impl_field_mod.f t783 (wrap64 (a1 - t803))).bind fun t804 => (some (bt790.1, (y798.set ((ji10) : Int).toNat t804), bt790.2.2, 0)))))) else (none)) else (none)) else (none)) else (some (bt790.1, y798, bt790.2.2, 0)))) else (none)))) = some (r1, r2, r3, r4) := H
 have A13 := zA A130
 clear A130
 by_cases c14 : t789 = 0
 rotate_left
 ·rw [if_neg c14] at H
  have c14b0 : (t789 == 0) = false := beq_eq_false_iff_ne.mpr c14
  have c14b1 : (t789 != 0) = true := bne_iff_ne.mpr c14
  replace H := Option.bind_eq_some_iff.mp H
  obtain ⟨⟨t790, t791, t794⟩, A280, H⟩ := H
  replace H : (if (ji10) < (t791.length : Int) then ((some (t791.set ((ji10) : Int).toNat a1 : List Int)).bind fun y798 => (if t784 > 1 then (if (ji10) < (l0_2.length : Int) then (if 0 ≤ (wrap64 (t784 - 2)) then (if (wrap64 (t784 - 2)) < (t785.length : Int) then ((impl_field_value.f t783 (rd_L1 t785 (wrap64 (t784 - 2))) a1).bind fun t801 => ((impl_field_div.f k t783 t801 t789).bind fun t802 => ((impl_field_mul.f t783 (rd l0_2 (ji10)) t802).bind fun t803 => ((impl_field_mod.f t783 (wrap64 (a1 - t803))).bind fun t804 => (some (t790, (y798.set ((ji10) : Int).toNat t804), t794, 0)))))) else (none)) else (none)) else (none)) else (some (t790, y798, t794, 0)))) else (none)) = some (r1, r2, r3, r4) := H
  have A28 := zA A280
  clear A280
  by_cases c29 : (ji10) < (t791.length : Int)
  rotate_left
  ·rw [if_neg c29] at H
   exact absurd H (by simp)
  rw [if_pos c29] at H
  have c29b0 : decide ((ji10) < (t791.length : Int)) = true := decide_eq_true c29
  clear c29
  obtain ⟨y798, hy798⟩ : ∃ y_ : List Int, y_ = (t791.set ((ji10) : Int).toNat a1) := ⟨_, rfl⟩
  replace H : (if t784 > 1 then (if (ji10) < (l0_2.length : Int) then (if 0 ≤ (wrap64 (t784 - 2)) then (if (wrap64 (t784 - 2)) < (t785.length : Int) then ((impl_field_value.f t783 (rd_L1 t785 (wrap64 (t784 - 2))) a1).bind fun t801 => ((impl_field_div.f k t783 t801 t789).bind fun t802 => ((impl_field_mul.f t783 (rd l0_2 (ji10)) t802).bind fun t803 => ((impl_field_mod.f t783 (wrap64 (a1 - t803))).bind fun t804 => (some (t790, (y798.set ((ji10) : Int).toNat t804), t794, 0)))))) else (none)) else (none)) else (none)) else (some (t790, y798, t794, 0))) = some (r1, r2, r3, r4) := by first | (rw [hy798]; exact H) | exact H
  have Ny798 := zA hy798
  clear hy798
  by_cases c31 : t784 > 1
  rotate_left
  ·rw [if_neg c31] at H
   have c31b0 : decide (1 < t784) = false := decide_eq_false c31
   clear c31
   simp only [Option.some.injEq, Prod.mk.injEq] at H
   obtain ⟨rfl, rfl, rfl, rfl⟩ := H
   go_enter Try.func35, Try.ntmps35
   try go_wp2_with (first | ((with_reducible refine gate_dst (N := 2) rfl ?_); refine bx 2 #[.int .i64 a0_0, .slice A0_1 l0_1.length c0_1, .slice A0_2 l0_2.length c0_2] 46 ?_; intro gb778 hg w71 hbox hb; have BK778 := zA (hbox); have GW778 := gq HB hg; have GE778 := gq HB hg; replace HB := xH HB hb; have := geI GE778; clear hb hbox hg) | ((with_reducible refine gate_dst (N := 4) rfl ?_); refine bx 4 #[.int .i64 0, .slice none 0 0, .slice none 0 0] 46 ?_; intro gb779 hg w72 hbox hb; have BK779 := zA (hbox); have GW779 := gq HB hg; have GE779 := gq HB hg; replace HB := xH HB hb; have NB778_779 := zA ((by rw [hg]; exact neL BK778 : gb778 ≠ gb779)); have NB779_778 := zA ((by rw [hg]; exact neG BK778 : gb779 ≠ gb778)); replace BK778 := xB BK778 hb; have := geI GE779; clear hb hbox hg))
   replace BK778 := zA (blk_drew BK778.out)
   replace BK779 := zA (blk_drew BK779.out)
   replace HB := zA (below_drew1 HB.out)
   refine start_ (n := 7) (S := fun w' => w'.cell? ⟨gb778, 0, none⟩ = some (.int .i64 a0_0) ∧ w'.cell? ⟨gb778, 1, none⟩ = some (.slice A0_1 l0_1.length c0_1) ∧ w'.cell? ⟨gb778, 2, none⟩ = some (.slice A0_2 l0_2.length c0_2)) (ds := []) #[false, false, false, false, false, false, false] (by kernel_rfl) rfl rfl ⟨bcu BK778 0, bcu BK778 1, bcu BK778 2⟩ (fun hHeld => ?_)
   generalize w72.drew = w73 at BK778 BK779 HB hHeld ⊢
   refine pure_ (i := 3) (N := some 15) (v := ?_) (a' := ?_) (bl 7 8) rfl rfl (by kernel_rfl) (fun _ _ _ h => h) (Or.inl ⟨by rfl, ?_⟩) ?_ ?_
   rotate_left
   ·intro w'
    go_simp
    with_reducible rfl
   rotate_left
   ·simp only [Act.put, ls, lz, ln, i64_w, i32_w]
    rfl
   refine take_ (i := 0) (N := some 12) (v := ?_) (a' := ?_) (bl 7 9) rfl rfl (by kernel_rfl) (fun _ _ _ h => h) (Or.inl ⟨by rfl, ?_⟩) hHeld ?_ ?_
   rotate_left
   ·rintro w' ⟨s0, s1, s2⟩
    go_simp
    with_reducible rfl
   rotate_left
   ·simp only [Act.put, ls, lz, ln, i64_w, i32_w]
    rfl
   refine take_ (i := 1) (N := some 13) (v := ?_) (a' := ?_) (bl 7 11) rfl rfl (by kernel_rfl) (fun _ _ _ h => h) (Or.inl ⟨by rfl, ?_⟩) hHeld ?_ ?_
   rotate_left
   ·rintro w' ⟨s0, s1, s2⟩
    go_simp
    with_reducible rfl
   rotate_left
   ·simp only [Act.put, ls, lz, ln, i64_w, i32_w]
    rfl
   refine one_ (i := 2) (N := some 14) (bl 7 15) rfl rfl (by kernel_rfl) (by decide) (fun K hK => ?_)
   refine gS Try.func76 #[.agg #[.int .i64 a0_0, .slice A0_1 l0_1.length c0_1, .slice A0_2 l0_2.length c0_2]] ?_
   with_reducible refine (impl_Jacobi_field.calls a0_0 _ _ l0_1 _ _ l0_2 t780 _ ?side1 ?side2 ?side3 ?side4 A3.out).mono ?_
   (case side1 => exact uC ((Kd.C_below HR0_1.out HB.out)))
   (case side2 => exact HC0_1.out)
   (case side3 => exact uC ((Kd.C_below HR0_2.out HB.out)))
   (case side4 => exact HC0_2.out)
   rintro e w74 ⟨rfl, hb⟩
   refine ⟨_, rfl, ?_⟩
   replace BK778 := xB BK778 hb
   replace BK779 := xB BK779 hb
   replace HB := xH HB hb
   (try clear hb); (try clear hb2); (try clear hk); (try clear hi)
   refine hK.out _ _ ⟨bcu BK778 0, bcu BK778 1, bcu BK778 2⟩ (fun hHeld => ?_)
   clear hK K
   refine no_ 14 ?_
   refine one_ (i := 4) (N := some 16) (bl 7 31) rfl rfl (by kernel_rfl) (by decide) (fun K hK => ?_)
   refine gS Try.func77 #[.int .i64 t780, .int .i64 a1] ?_
   with_reducible refine (impl_field_has.calls t780 a1 t781 _ A4.out).mono ?_
   rintro e w' ⟨rfl, ⟨nd, rfl⟩⟩
   refine ⟨_, rfl, ?_⟩
   refine hK.out _ _ ⟨bcu BK778 0, bcu BK778 1, bcu BK778 2⟩ (fun hHeld => ?_)
   clear hK K
   refine no_ 16 ?_
   refine one_ (i := 5) (N := some 17) (bl 7 63) rfl rfl (by kernel_rfl) (by decide) (fun K hK => ?_)
   refine gS Try.func73 #[.agg #[.int .i64 a0_0, .slice A0_1 l0_1.length c0_1, .slice A0_2 l0_2.length c0_2], .bool t781] ?_
   with_reducible refine (impl_jacobiCode.calls k a0_0 _ _ l0_1 _ _ l0_2 t781 t782 _ ?side1 ?side2 ?side3 ?side4 A5.out).mono ?_
   (case side1 => repeat (first | exact (Kd.C_below HR0_1.out (uH HB.out)) | (with_reducible refine Kd.C_alloc ?_ _) | (with_reducible refine Kd.C_drewN ?_ _) | (with_reducible refine Kd.C_drew ?_)))
   (case side2 => exact HC0_1.out)
   (case side3 => repeat (first | exact (Kd.C_below HR0_2.out (uH HB.out)) | (with_reducible refine Kd.C_alloc ?_ _) | (with_reducible refine Kd.C_drewN ?_ _) | (with_reducible refine Kd.C_drew ?_)))
   (case side4 => exact HC0_2.out)
   rintro e w75 ⟨rfl, hb⟩
   refine ⟨_, rfl, ?_⟩
   replace BK778 := xB BK778 hb
   replace BK779 := xB BK779 hb
   replace HB := xH HB hb
   (try clear hb); (try clear hb2); (try clear hk); (try clear hi)
   refine hK.out _ _ ⟨bcu BK778 0, bcu BK778 1, bcu BK778 2⟩ (fun hHeld => ?_)
   clear hK K
   refine no_ 17 ?_
   refine pure_ (i := 6) (N := some 6) (v := ?_) (a' := ?_) (bl 7 127) rfl rfl (by kernel_rfl) (fun _ _ _ h => h) (Or.inl ⟨by rfl, ?_⟩) ?_ ?_
   rotate_left
   ·intro w'
    go_simp
    with_reducible rfl
   rotate_left
   ·simp only [Act.put, ls, lz, ln, i64_w, i32_w]
    rfl
   refine done_ (by kernel_rfl) ?_
   try go_wp2
   replace BK778 := zA (blk_drew BK778.out)
   replace BK779 := zA (blk_drew BK779.out)
   replace HB := zA (below_drew1 HB.out)
   refine start_ (n := 9) (S := fun w' => w'.cell? ⟨gb778, 0, none⟩ = some (.int .i64 a0_0) ∧ w'.cell? ⟨gb778, 1, none⟩ = some (.slice A0_1 l0_1.length c0_1) ∧ w'.cell? ⟨gb778, 2, none⟩ = some (.slice A0_2 l0_2.length c0_2)) (ds := []) #[false, false, false, false, false, false, false, false, false] (by kernel_rfl) rfl rfl ⟨bcu BK778 0, bcu BK778 1, bcu BK778 2⟩ (fun hHeld => ?_); refine with_tabW impl_RadauJacobi.tab4 impl_RadauJacobi.bits4 (fun HT_ HW_ => ?_)
   generalize w75.drew = w76 at BK778 BK779 HB hHeld ⊢
   refine ta_ 0 22 (bl 9 1) HT_ HW_ hHeld ?_
   refine ta_ 2 24 (bl 9 5) HT_ HW_ hHeld ?_
   refine ta_ 4 26 (bl 9 21) HT_ HW_ hHeld ?_
   refine on_ 1 (some 23) (bl 9 23) HT_ (fun K hK => ?_)
   refine gS Try.func76 #[.agg #[.int .i64 a0_0, .slice A0_1 l0_1.length c0_1, .slice A0_2 l0_2.length c0_2]] ?_
   with_reducible refine (impl_Jacobi_field.calls a0_0 _ _ l0_1 _ _ l0_2 t783 _ ?side1 ?side2 ?side3 ?side4 A7.out).mono ?_
   (case side1 => exact uC ((Kd.C_below HR0_1.out HB.out)))
   (case side2 => exact HC0_1.out)
   (case side3 => exact uC ((Kd.C_below HR0_2.out HB.out)))
   (case side4 => exact HC0_2.out)
   rintro e w77 ⟨rfl, hb⟩
   refine ⟨_, rfl, ?_⟩
   replace BK778 := xB BK778 hb
   replace BK779 := xB BK779 hb
   replace HB := xH HB hb
   (try clear hb); (try clear hb2); (try clear hk); (try clear hi)
   refine hK.out _ _ ⟨bcu BK778 0, bcu BK778 1, bcu BK778 2⟩ (fun hHeld => ?_)
   clear hK K
   refine no_ 23 ?_
   refine on_ 3 (some 25) (bl 9 31) HT_ (fun K hK => ?_)
   refine gS Try.func75 #[.agg #[.int .i64 a0_0, .slice A0_1 l0_1.length c0_1, .slice A0_2 l0_2.length c0_2]] ?_
   with_reducible refine (impl_Jacobi_size.calls a0_0 _ _ l0_1 _ _ l0_2 t784 _ ?side1 ?side2 ?side3 ?side4 A8.out).mono ?_
   (case side1 => exact uC ((Kd.C_below HR0_1.out HB.out)))
   (case side2 => exact HC0_1.out)
   (case side3 => exact uC ((Kd.C_below HR0_2.out HB.out)))
   (case side4 => exact HC0_2.out)
   rintro e w78 ⟨rfl, hb⟩
   refine ⟨_, rfl, ?_⟩
   replace BK778 := xB BK778 hb
   replace BK779 := xB BK779 hb
   replace HB := xH HB hb
   (try clear hb); (try clear hb2); (try clear hk); (try clear hi)
   refine hK.out _ _ ⟨bcu BK778 0, bcu BK778 1, bcu BK778 2⟩ (fun hHeld => ?_)
   clear hK K
   refine no_ 25 ?_
   refine on_ 5 (some 27) (bl 9 63) HT_ (fun K hK => ?_)
   refine gS Try.func79 #[.agg #[.int .i64 a0_0, .slice A0_1 l0_1.length c0_1, .slice A0_2 l0_2.length c0_2]] ?_
   with_reducible refine (impl_Jacobi_polys.calls k a0_0 _ _ l0_1 _ _ l0_2 t785 _ ?side1 ?side2 ?side3 ?side4 A9.out).mono ?_
   (case side1 => exact uC ((Kd.C_below HR0_1.out HB.out)))
   (case side2 => exact HC0_1.out)
   (case side3 => exact uC ((Kd.C_below HR0_2.out HB.out)))
   (case side4 => exact HC0_2.out)
   rintro e w79 ⟨v786, rfl, ho0, hb⟩
   refine ⟨_, rfl, ?_⟩
   have HO787 := zA (Kd.N_lower (Kd.N_mono (ok' := fun k_ => k_ ≠ gb778 ∧ k_ ≠ gb779) ho0 (fun k_ hk_ => ⟨(Kd.freshB (g := gb778) (o := .cells #[.int .i64 a0_0, .slice A0_1 l0_1.length c0_1, .slice A0_2 l0_2.length c0_2] 46 (0, 0)) (uB BK778.out) k_ hk_), (Kd.freshB (g := gb779) (o := .cells #[.int .i64 0, .slice none 0 0, .slice none 0 0] 46 (0, 0)) (uB BK779.out) k_ hk_)⟩)) (below_size (uH HB.out)))
   replace BK778 := xB BK778 hb
   replace BK779 := xB BK779 hb
   replace HB := xH HB hb
   (try clear hb); (try clear hb2); (try clear hk); (try clear hi); (try clear ho0)
   refine hK.out _ _ ⟨bcu BK778 0, bcu BK778 1, bcu BK778 2⟩ (fun hHeld => ?_)
   clear hK K
   refine no_ 27 ?_
   refine pu_ 6 7 (bl 9 127) HT_ ?_
   refine pu_ 7 8 (bl 9 255) HT_ ?_
   refine pu_ 8 9 (bl 9 511) HT_ ?_
   refine done_ (done_of HT_.out (by kernel_rfl)) ?_
   obtain ⟨Ao80, co80, eo80⟩ := Kd.N_slice HO787.out
   subst eo80
   have p788 : 0 ≤ ((ji10) : Int) := of_decide_eq_true (by first | (with_reducible assumption) | assumption)
   have q788 : (ji10) < (t785.length : Int) := of_decide_eq_true (by first | (with_reducible assumption) | assumption)
   obtain ⟨ad788, A788_0, c788_0, e788, hx788_0, hl788_0, hi788_0⟩ := at_L1 (Kd.N_reads' HO787.out).2.2 (ji10) p788 q788
   cases e788
   obtain ⟨ce788, hce788, hMe788, hcc788⟩ := Kd.N_get HO787.out [] (ji10) p788 (by first | exact q788 | exact of_decide_eq_true (by first | (with_reducible assumption) | assumption) | (have e_ := (Kd.N_reads' HO787.out).1; omega))
   obtain ⟨ua788_0, uc788_0, rfl, ul788_0, ge788_0⟩ := Kd.FK_slice_open hMe788
   have hv788_0 := hcc788 0 _ rfl
   rw [Nat.add_zero, show ((Kd.slice 2 (Kd.int .i64))).sz = 1 from rfl, Nat.mul_one] at hv788_0
   replace hv788_0 := Option.some.inj (hv788_0.symm.trans hx788_0)
   injection hv788_0 with hva_ hvn_ hvc_
   rw [hva_] at ge788_0
   rw [hvc_] at ul788_0
   have HL788_0 := zA (show Kd.V (Kd.int .i64) 2 _ w.heap.size _ _ (rd_L1 t785 (ji10)) from Kd.V_mk ul788_0 ge788_0)
   clear hva_ hvn_ hvc_ ge788_0 ul788_0
   clear hcc788 hce788
   have HR788_0 := zA hi788_0
   have HC788_0 := zA hl788_0
   clear hi788_0 hl788_0
   replace p788 := eq_true p788
   replace q788 := eq_true q788
   try go_wp2_with (first | ((with_reducible refine gate_callee (f := 78) rfl ?_); refine goesL_ (some 35) rfl rfl Try.func78 (by kernel_rfl) rfl #[.int .i64 t783, .slice A788_0 (rd_L1 t785 (ji10)).length c788_0, .int .i64 a1] rfl (by (try simp only [la, lb, lc]); first | done | (simp only [hji10]; rfl) | rfl | (simp only [ld, le]; rfl)) ?_; (with_reducible refine (impl_field_value.calls t783 _ _ (rd_L1 t785 (ji10)) a1 t789 _ ?side1 ?side2 A13.out).mono ?_); (case side1 => repeat (first | exact (by repeat (first | (with_reducible exact HR788_0.out) | (with_reducible refine Kd.C_alloc ?_ _) | (with_reducible refine Kd.C_drewN ?_ _) | (with_reducible refine Kd.C_drew ?_) | exact HR788_0.out)) | (with_reducible refine Kd.C_alloc ?_ _) | (with_reducible refine Kd.C_drewN ?_ _) | (with_reducible refine Kd.C_drew ?_))); (case side2 => exact HC788_0.out); rintro e w81 ⟨rfl, hb⟩; refine ⟨_, rfl, ?_⟩; replace HO787 := zA (Kd.N_below (by (with_reducible repeat (first | apply Kd.N_alloc | apply Kd.N_drewN | apply Kd.N_drew)); exact HO787.out) hb); replace HL788_0 := zA (Kd.V_below (by (with_reducible repeat (first | apply Kd.V_alloc | apply Kd.V_drewN | apply Kd.V_drew)); exact HL788_0.out) hb); replace BK778 := xB BK778 hb; replace BK779 := xB BK779 hb; replace HR788_0 := zA (Kd.C_below (by repeat (first | (with_reducible exact HR788_0.out) | (with_reducible refine Kd.C_alloc ?_ _) | (with_reducible refine Kd.C_drewN ?_ _) | (with_reducible refine Kd.C_drew ?_) | exact HR788_0.out)) hb); replace HB := xH HB hb; (try clear hb); (try clear hb2); (try clear hk); (try clear hi); have hnb82 := NB778_779.out; have hnc82 := NB779_778.out; have hcz83_0 := bc BK778 0; have hcz83_1 := bc BK778 1; have hcz83_2 := bc BK778 2; have hfz83_0 := bf BK778 0; have hfz83_1 := bf BK778 1; have hfz83_2 := bf BK778 2) | ((with_reducible refine gate_callee (f := 87) rfl ?_); refine gL (some 41) Try.func87 #[.agg #[.int .i64 a0_0, .slice A0_1 l0_1.length c0_1, .slice A0_2 l0_2.length c0_2], .int .i64 0, .int .i64 t784] ?_; (with_reducible refine (impl_Jacobi_part.calls a0_0 _ _ l0_1 _ _ l0_2 0 t784 t790 t791 t794 _ ?side1 ?side2 ?side3 ?side4 A28.out).mono ?_); (case side1 => exact uC ((Kd.C_below HR0_1.out HB.out))); (case side2 => exact HC0_1.out); (case side3 => exact uC ((Kd.C_below HR0_2.out HB.out))); (case side4 => exact HC0_2.out); rintro e w84 ⟨v792, v795, rfl, ho0, ho1, hb⟩; refine ⟨_, rfl, ?_⟩; replace HO787 := zA (Kd.N_mono (Kd.N_told (Kd.N_told (Kd.N_old (by (with_reducible repeat (first | apply Kd.N_alloc | apply Kd.N_drewN | apply Kd.N_drew)); exact HO787.out) hb) (Kd.R_base ho0)) (Kd.R_base ho1)) (fun _ h_ => h_.1)); replace HL788_0 := zA (Kd.V_mono (Kd.V_told (Kd.V_told (Kd.V_old (by (with_reducible repeat (first | apply Kd.V_alloc | apply Kd.V_drewN | apply Kd.V_drew)); exact HL788_0.out) hb) (Kd.R_base ho0)) (Kd.R_base ho1)) (fun _ h_ => h_.1)); have HO793 := zA (Kd.R_lower ho0 (below_size (uH HB.out))); have HO796 := zA (Kd.R_lower ho1 (below_size (uH HB.out))); replace BK778 := xB BK778 hb; replace BK779 := xB BK779 hb; replace HR788_0 := zA (Kd.C_below (by repeat (first | (with_reducible exact HR788_0.out) | (with_reducible refine Kd.C_alloc ?_ _) | (with_reducible refine Kd.C_drewN ?_ _) | (with_reducible refine Kd.C_drew ?_) | exact HR788_0.out)) hb); replace HB := xH HB hb; (try clear hb); (try clear hb2); (try clear hk); (try clear hi); (try clear ho0); (try clear ho1)) | ((with_reducible refine gate_dst (N := 11) rfl ?_); refine bx 11 #[.int .i64 0, .slice none 0 0, .slice none 0 0] 46 ?_; intro gb797 hg w85 hbox hb; replace HO787 := zA (Kd.N_below (Kd.N_elderB (by (with_reducible repeat (first | apply Kd.N_alloc | apply Kd.N_drewN | apply Kd.N_drew)); exact HO787.out) gb797 (Nat.le_of_eq hg.symm)) hb); replace HL788_0 := zA (Kd.V_below (Kd.V_elderB (by (with_reducible repeat (first | apply Kd.V_alloc | apply Kd.V_drewN | apply Kd.V_drew)); exact HL788_0.out) gb797 (Nat.le_of_eq hg.symm)) hb); replace HO793 := xR HO793 hb; replace HO796 := xR HO796 hb; replace HR788_0 := zA (Kd.C_below (by repeat (first | (with_reducible exact HR788_0.out) | (with_reducible refine Kd.C_alloc ?_ _) | (with_reducible refine Kd.C_drewN ?_ _) | (with_reducible refine Kd.C_drew ?_) | exact HR788_0.out)) hb); have BK797 := zA (hbox); have GW797 := gq HB hg; have GE797 := gq HB hg; replace HB := xH HB hb; have NB778_797 := zA ((by rw [hg]; exact neL BK778 : gb778 ≠ gb797)); have NB797_778 := zA ((by rw [hg]; exact neG BK778 : gb797 ≠ gb778)); replace BK778 := xB BK778 hb; have NB779_797 := zA ((by rw [hg]; exact neL BK779 : gb779 ≠ gb797)); have NB797_779 := zA ((by rw [hg]; exact neG BK779 : gb797 ≠ gb779)); replace BK779 := xB BK779 hb; have := geI GE797; clear hb hbox hg; have hnb86 := NB797_778.out; have hnc86 := NB778_797.out; have hnb87 := NB797_779.out; have hnc87 := NB779_797.out; have hcz88_0 := bc BK797 0; have hcz88_1 := bc BK797 1; have hcz88_2 := bc BK797 2; have hfz88_0 := bf BK797 0; have hfz88_1 := bf BK797 1; have hfz88_2 := bf BK797 2; obtain ⟨Ao89, co89, eo89⟩ := Kd.R_slice HO793.out; subst eo89; obtain ⟨Ao90, co90, eo90⟩ := Kd.R_slice HO796.out; subst eo90) | ((with_reducible refine gate_store (t := 46) (p := 11) rfl ?_); refine store_event (t := 46) (p := 11) (v := ?vo_w91) (w1 := (((w85.setCell ⟨gb797, 0, none⟩ (.int .i64 t790)).setCell ⟨gb797, 1, none⟩ (.slice Ao89 t791.length co89)).setCell ⟨gb797, 2, none⟩ (.slice Ao90 t794.length co90))) ?hg ?ho ?hn ?hr ?_; (case ho => rfl); (case hg => rfl); (case hn => rfl); (case hr => first | (go_simp; done) | (go_simp; rfl)); intro w91 hw; have n0_ : Aside0 (Kd.N (Kd.slice 2 (Kd.int .i64)) 22 w91 w.heap.size (fun k_ => ax k_ (.slice Ao89 t791.length co89) ∧ ax k_ (.slice Ao90 t794.length co90) ∧ k_ ≠ gb778 ∧ k_ ≠ gb779 ∧ k_ ≠ gb797) (.slice (some ad788) t785.length co80) t785) := ⟨(by rw [hw]; exact (by (with_reducible repeat (first | apply Kd.N_alloc | apply Kd.N_drewN | apply Kd.N_drew)); exact Kd.N_mono (Kd.N_far (p := ⟨gb797, 2, none⟩) (Kd.N_far (p := ⟨gb797, 1, none⟩) (Kd.N_far (p := ⟨gb797, 0, none⟩) (Kd.N_mono HO787.out (fun k_ hk => (⟨hk, hk.2⟩ : _ ∧ k_ ≠ gb797))) (fun _ hk => hk.2) (.int .i64 t790)) (fun _ hk => hk.2) (.slice Ao89 t791.length co89)) (fun _ hk => hk.2) (.slice Ao90 t794.length co90)) (fun _ hk => ⟨hk.1.1.1.2, ⟨hk.1.1.2, ⟨hk.1.1.1.1.1, ⟨hk.1.1.1.1.2, hk.1.2⟩⟩⟩⟩)))⟩; have n1_ : Aside0 (Kd.V (Kd.int .i64) 2 w91 w.heap.size (fun k_ => ax k_ (.slice (some ad788) t785.length co80) ∧ ax k_ (.slice Ao89 t791.length co89) ∧ ax k_ (.slice Ao90 t794.length co90) ∧ k_ ≠ gb778 ∧ k_ ≠ gb779 ∧ k_ ≠ gb797) (.slice A788_0 (rd_L1 t785 (ji10)).length c788_0) (rd_L1 t785 (ji10))) := ⟨(by rw [hw]; exact (by (with_reducible repeat (first | apply Kd.V_alloc | apply Kd.V_drewN | apply Kd.V_drew)); exact Kd.V_mono (Kd.V_far (p := ⟨gb797, 2, none⟩) (Kd.V_far (p := ⟨gb797, 1, none⟩) (Kd.V_far (p := ⟨gb797, 0, none⟩) (Kd.V_mono HL788_0.out (fun k_ hk => (⟨hk, hk.2⟩ : _ ∧ k_ ≠ gb797))) (fun _ hk => hk.2) (.int .i64 t790)) (fun _ hk => hk.2) (.slice Ao89 t791.length co89)) (fun _ hk => hk.2) (.slice Ao90 t794.length co90)) (fun _ hk => ⟨hk.1.1.1.1.2, ⟨hk.1.1.1.2, ⟨hk.1.1.2, ⟨hk.1.1.1.1.1.1, ⟨hk.1.1.1.1.1.2, hk.1.2⟩⟩⟩⟩⟩)))⟩; have n2_ : Aside0 (Kd.R (Kd.int .i64) 2 w91 w.heap.size (fun k_ => ax k_ (.slice Ao90 t794.length co90)) (.slice Ao89 t791.length co89) t791) := ⟨(by rw [hw]; exact (uR (rf3 HO793 BK797 (by decide) (.int .i64 t790) (.slice Ao89 t791.length co89) (.slice Ao90 t794.length co90))))⟩; have n3_ : Aside0 (Kd.R (Kd.int .i64) 2 w91 w.heap.size (fun k_ => ax k_ (.slice Ao89 t791.length co89)) (.slice Ao90 t794.length co90) t794) := ⟨(by rw [hw]; exact (uR (rf3 HO796 BK797 (by decide) (.int .i64 t790) (.slice Ao89 t791.length co89) (.slice Ao90 t794.length co90))))⟩; have n4_ : Aside0 (w91.heap[gb778]? = some (.cells #[.int .i64 a0_0, .slice A0_1 l0_1.length c0_1, .slice A0_2 l0_2.length c0_2] 46 (0, 0))) := ⟨(by rw [hw]; exact (by (repeat refine up1 ?_); refine blk_far ?_ NB778_797.out _; (repeat refine up1 ?_); refine blk_far ?_ NB778_797.out _; (repeat refine up1 ?_); refine blk_far ?_ NB778_797.out _; (repeat refine up1 ?_); exact BK778.out))⟩; have n5_ : Aside0 (w91.heap[gb779]? = some (.cells #[.int .i64 0, .slice none 0 0, .slice none 0 0] 46 (0, 0))) := ⟨(by rw [hw]; exact (by (repeat refine up1 ?_); refine blk_far ?_ NB779_797.out _; (repeat refine up1 ?_); refine blk_far ?_ NB779_797.out _; (repeat refine up1 ?_); refine blk_far ?_ NB779_797.out _; (repeat refine up1 ?_); exact BK779.out))⟩; have n6_ : Aside0 (w91.heap[gb797]? = some (.cells #[.int .i64 t790, .slice Ao89 t791.length co89, .slice Ao90 t794.length co90] 46 (0, 0))) := ⟨(by rw [hw]; exact (by (repeat refine up1 ?_); refine blk_put (cs := #[.int .i64 t790, .slice Ao89 t791.length co89, .slice none 0 0]) ?_ 2 _ rfl; (repeat refine up1 ?_); refine blk_put (cs := #[.int .i64 t790, .slice none 0 0, .slice none 0 0]) ?_ 1 _ rfl; (repeat refine up1 ?_); refine blk_put (cs := #[.int .i64 0, .slice none 0 0, .slice none 0 0]) ?_ 0 _ rfl; (repeat refine up1 ?_); exact BK797.out))⟩; have n7_ : Aside0 (Below w.heap.size w w91) := ⟨(by rw [hw]; exact (uH HB.out))⟩; clear hw HO787 HL788_0 HO793 HO796 BK778 BK779 BK797 HB; have HO787 := n0_; have HL788_0 := n1_; have HO793 := n2_; have HO796 := n3_; have BK778 := n4_; have BK779 := n5_; have BK797 := n6_; have HB := n7_; clear n0_ n1_ n2_ n3_ n4_ n5_ n6_ n7_; have hcz92_0 := bc BK797 0; have hcz92_1 := bc BK797 1; have hcz92_2 := bc BK797 2; have hfz92_0 := bf BK797 0; have hfz92_1 := bf BK797 1; have hfz92_2 := bf BK797 2; have p30 : 0 ≤ ((ji10) : Int) := of_decide_eq_true (by first | (with_reducible assumption) | assumption); have q30 : ((ji10) : Int) < ((t791.length : Int) : Int) := of_decide_eq_true (by first | (with_reducible assumption) | assumption); obtain ⟨go30, co30, eo30, gb30, gl30, cl30, HG30⟩ := Kd.R_form HO793.out (by omega); (first | cases eo30 | (injection eo30 with ea_ en_ ec_; (first | subst ea_ | (injection ea_ with ea_; subst ea_)); subst ec_; clear en_)); have GB30 := zA gb30; have := geI GB30; have GG30 := zA HG30; clear gb30 gl30 HG30; obtain ⟨hx30_0, hf30_0⟩ := Kd.R_celln 0 HO793.out ((ji10) : Int) p30 q30; replace p30 := eq_true p30; replace q30 := eq_true q30; obtain ⟨hy93_, hz93_⟩ := Kd.R_celln 0 HO793.out ((ji10) : Int) (of_decide_eq_true (by first | (with_reducible assumption) | assumption)) (of_decide_eq_true (by first | (with_reducible assumption) | assumption)); have HP93 := Kd.R_putg HO793.out ((ji10) : Int) a1) | ((with_reducible refine gate_store (t := 2) (p := 47) rfl ?_); refine store_event (t := 2) (p := 47) (v := ?vo_w94) (w1 := (w91.setCell ⟨go30, ((ji10) : Int).toNat, none⟩ (.int .i64 a1))) ?hg ?ho ?hn ?hr ?_; (case ho => rfl); (case hg => rfl); (case hn => rfl); (case hr => first | (go_simp; done) | (go_simp; rfl)); intro w94 hw; have hg : w91.grownBy w94 (some go30) := (by rw [hw]; exact HP93.2); have hp_ : Kd.R (Kd.int .i64) 2 w94 w.heap.size (fun k_ => ax k_ (.slice Ao90 t794.length co90)) (.slice (some ⟨go30, 0, none⟩) t791.length co89) y798 := (by rw [hw, Ny798.out]; exact HP93.1); clear HP93; replace BK778 := zA (blk_grown (g := gb778) (o := .cells #[.int .i64 a0_0, .slice A0_1 l0_1.length c0_1, .slice A0_2 l0_2.length c0_2] 46 (0, 0)) (uB BK778.out) hg (Kd.R_ne HO793.out BK778.out (by decide))); replace BK779 := zA (blk_grown (g := gb779) (o := .cells #[.int .i64 0, .slice none 0 0, .slice none 0 0] 46 (0, 0)) (uB BK779.out) hg (Kd.R_ne HO793.out BK779.out (by decide))); replace HO787 := zA (Kd.N_afterv (v := (.slice (some ⟨go30, 0, none⟩) t791.length co89)) (v1 := (.slice (some ⟨go30, 0, none⟩) t791.length co89)) (ok := (fun k_ => ax k_ (.slice Ao90 t794.length co90) ∧ k_ ≠ gb778 ∧ k_ ≠ gb779 ∧ k_ ≠ gb797)) (by (with_reducible repeat (first | apply Kd.N_alloc | apply Kd.N_drewN | apply Kd.N_drew)); exact Kd.N_mono HO787.out (fun _ hk => ⟨⟨hk.2.1, ⟨hk.2.2.1, ⟨hk.2.2.2.1, hk.2.2.2.2⟩⟩⟩, hk.1⟩)) hg (.inl rfl)); replace HL788_0 := zA (Kd.V_afterv (v := (.slice (some ⟨go30, 0, none⟩) t791.length co89)) (v1 := (.slice (some ⟨go30, 0, none⟩) t791.length co89)) (ok := (fun k_ => ax k_ (.slice (some ad788) t785.length co80) ∧ ax k_ (.slice Ao90 t794.length co90) ∧ k_ ≠ gb778 ∧ k_ ≠ gb779 ∧ k_ ≠ gb797)) (by (with_reducible repeat (first | apply Kd.V_alloc | apply Kd.V_drewN | apply Kd.V_drew)); exact Kd.V_mono HL788_0.out (fun _ hk => ⟨⟨hk.1, ⟨hk.2.2.1, ⟨hk.2.2.2.1, ⟨hk.2.2.2.2.1, hk.2.2.2.2.2⟩⟩⟩⟩, hk.2.1⟩)) hg (.inl rfl)); replace HO796 := zA (Kd.R_after (v := (.slice (some ⟨go30, 0, none⟩) t791.length co89)) (v1 := (.slice (some ⟨go30, 0, none⟩) t791.length co89)) (ok := (fun _ => True)) (uR (Kd.R_mono HO796.out (fun _ hk => ⟨trivial, hk⟩))) hg (.inl rfl)); replace BK797 := zA (blk_grown (g := gb797) (o := .cells #[.int .i64 t790, .slice (some ⟨go30, 0, none⟩) t791.length co89, .slice Ao90 t794.length co90] 46 (0, 0)) (uB BK797.out) hg (Kd.R_ne HO793.out BK797.out (by decide))); replace HO793 := zA (hp_); replace HB := zA ((by rw [hw]; exact below_set (HB.out) GB30.out : Below w.heap.size w w94)); clear hg hw hp_; have hcz95_0 := bc BK797 0; have hcz95_1 := bc BK797 1; have hcz95_2 := bc BK797 2; have hfz95_0 := bf BK797 0; have hfz95_1 := bf BK797 1; have hfz95_2 := bf BK797 2; have hcz96_0 := bc BK779 0; have hcz96_1 := bc BK779 1; have hcz96_2 := bc BK779 2; have hfz96_0 := bf BK779 0; have hfz96_1 := bf BK779 1; have hfz96_2 := bf BK779 2))
   refine bodyPost_ret (results_ct rfl _ _ gb779 46 #[.int .i64 t790, .slice (some ⟨go30, 0, none⟩) t791.length co89, .slice Ao90 t794.length co90] (0, 0) _ rfl (by (repeat refine up1 ?_); refine blk_put (cs := #[.int .i64 t790, .slice (some ⟨go30, 0, none⟩) t791.length co89, .slice none 0 0]) ?_ 2 _ rfl; (repeat refine up1 ?_); refine blk_put (cs := #[.int .i64 t790, .slice none 0 0, .slice none 0 0]) ?_ 1 _ rfl; (repeat refine up1 ?_); refine blk_put (cs := #[.int .i64 0, .slice none 0 0, .slice none 0 0]) ?_ 0 _ rfl; (repeat refine up1 ?_); exact BK779.out) Try.underlying46 rfl (by kernel_rfl)) rfl ?_
   exact ⟨_, _, by first | rfl | (simp [errW_none, errW_some] <;> rfl) | (simp only [← hji10]; first | rfl | (simp [errW_none, errW_some] <;> rfl)) | (simp [*, errW_none, errW_some] <;> rfl), uR (rf3 HO793 BK779 (by decide) (.int .i64 t790) (.slice (some ⟨go30, 0, none⟩) t791.length co89) (.slice Ao90 t794.length co90)), uR (Kd.R_mono (Kd.R_far (p := ⟨gb779, 2, none⟩) (Kd.R_far (p := ⟨gb779, 1, none⟩) (Kd.R_far (p := ⟨gb779, 0, none⟩) (Kd.R_types HO796.out BK779.out (by decide)) (fun _ hk => hk.2) (.int .i64 t790)) (fun _ hk => hk.2) (.slice (some ⟨go30, 0, none⟩) t791.length co89)) (fun _ hk => hk.2) (.slice Ao90 t794.length co90)) (fun _ hk => hk.1.2)), uH HB.out⟩
  rw [if_pos c31] at H
  have c31b0 : decide (1 < t784) = true := decide_eq_true c31
  clear c31
  by_cases c32 : (ji10) < (l0_2.length : Int)
  rotate_left
  ·rw [if_neg c32] at H
   exact absurd H (by simp)
  rw [if_pos c32] at H
  have c32b0 : decide ((ji10) < (l0_2.length : Int)) = true := decide_eq_true c32
  clear c32
  obtain ⟨ji33, hji33⟩ : ∃ j_ : Int, (wrap64 (t784 - 2)) = j_ := ⟨_, rfl⟩
  replace H : (if 0 ≤ (ji33) then (if (ji33) < (t785.length : Int) then ((impl_field_value.f t783 (rd_L1 t785 (ji33)) a1).bind fun t801 => ((impl_field_div.f k t783 t801 t789).bind fun t802 => ((impl_field_mul.f t783 (rd l0_2 (ji10)) t802).bind fun t803 => ((impl_field_mod.f t783 (wrap64 (a1 - t803))).bind fun t804 => (some (t790, (y798.set ((ji10) : Int).toNat t804), t794, 0)))))) else (none)) else (none)) = some (r1, r2, r3, r4) := by first | (rw [hji33] at H; exact H) | (simp only [hji33] at H ⊢; exact H)
  (try rw [hji33] at A3)
  (try rw [hji33] at A4)
  (try rw [hji33] at A5)
  (try rw [hji33] at A7)
  (try rw [hji33] at A8)
  (try rw [hji33] at A9)
  (try rw [hji33] at A13)
  (try rw [hji33] at A28)
  have hji33w : (IntKind.i64.wrap (t784 - 2)) = ji33 := (i64_w _).trans hji33
  by_cases c34 : 0 ≤ (ji33)
  rotate_left
  ·rw [if_neg c34] at H
   exact absurd H (by simp)
  rw [if_pos c34] at H
  have c34b0 : decide (0 ≤ (ji33)) = true := decide_eq_true c34
  clear c34
  by_cases c35 : (ji33) < (t785.length : Int)
  rotate_left
  ·rw [if_neg c35] at H
   exact absurd H (by simp)
  rw [if_pos c35] at H
  have c35b0 : decide ((ji33) < (t785.length : Int)) = true := decide_eq_true c35
  clear c35
  replace H := Option.bind_eq_some_iff.mp H
  obtain ⟨t801, A360, H⟩ := H
  replace H : ((impl_field_div.f k t783 t801 t789).bind fun t802 => ((impl_field_mul.f t783 (rd l0_2 (ji10)) t802).bind fun t803 => ((impl_field_mod.f t783 (wrap64 (a1 - t803))).bind fun t804 => (some (t790, (y798.set ((ji10) : Int).toNat t804), t794, 0))))) = some (r1, r2, r3, r4) := H
  have A36 := zA A360
  clear A360
  replace H := Option.bind_eq_some_iff.mp H
  obtain ⟨t802, A370, H⟩ := H
  replace H : ((impl_field_mul.f t783 (rd l0_2 (ji10)) t802).bind fun t803 => ((impl_field_mod.f t783 (wrap64 (a1 - t803))).bind fun t804 => (some (t790, (y798.set ((ji10) : Int).toNat t804), t794, 0)))) = some (r1, r2, r3, r4) := H
  have A37 := zA A370
  clear A370
  replace H := Option.bind_eq_some_iff.mp H
  obtain ⟨t803, A380, H⟩ := H
  replace H : ((impl_field_mod.f t783 (wrap64 (a1 - t803))).bind fun t804 => (some (t790, (y798.set ((ji10) : Int).toNat t804), t794, 0))) = some (r1, r2, r3, r4) := H
  have A38 := zA A380
  clear A380
  replace H := Option.bind_eq_some_iff.mp H
  obtain ⟨t804, A390, H⟩ := H
  replace H : (some (t790, (y798.set ((ji10) : Int).toNat t804), t794, 0)) = some (r1, r2, r3, r4) := H
  have A39 := zA A390
  clear A390
  obtain ⟨y805, hy805⟩ : ∃ y_ : List Int, y_ = (y798.set ((ji10) : Int).toNat t804) := ⟨_, rfl⟩
  replace H : (some (t790, y805, t794, 0)) = some (r1, r2, r3, r4) := by first | (rw [hy805]; exact H) | exact H
  have Ny805 := zA hy805
  clear hy805
  simp only [Option.some.injEq, Prod.mk.injEq] at H
  obtain ⟨rfl, rfl, rfl, rfl⟩ := H
  go_enter Try.func35, Try.ntmps35
  try go_wp2_with (first | ((with_reducible refine gate_dst (N := 2) rfl ?_); refine bx 2 #[.int .i64 a0_0, .slice A0_1 l0_1.length c0_1, .slice A0_2 l0_2.length c0_2] 46 ?_; intro gb778 hg w41 hbox hb; have BK778 := zA (hbox); have GW778 := gq HB hg; have GE778 := gq HB hg; replace HB := xH HB hb; have := geI GE778; clear hb hbox hg) | ((with_reducible refine gate_dst (N := 4) rfl ?_); refine bx 4 #[.int .i64 0, .slice none 0 0, .slice none 0 0] 46 ?_; intro gb779 hg w42 hbox hb; have BK779 := zA (hbox); have GW779 := gq HB hg; have GE779 := gq HB hg; replace HB := xH HB hb; have NB778_779 := zA ((by rw [hg]; exact neL BK778 : gb778 ≠ gb779)); have NB779_778 := zA ((by rw [hg]; exact neG BK778 : gb779 ≠ gb778)); replace BK778 := xB BK778 hb; have := geI GE779; clear hb hbox hg))
  replace BK778 := zA (blk_drew BK778.out)
  replace BK779 := zA (blk_drew BK779.out)
  replace HB := zA (below_drew1 HB.out)
  refine start_ (n := 7) (S := fun w' => w'.cell? ⟨gb778, 0, none⟩ = some (.int .i64 a0_0) ∧ w'.cell? ⟨gb778, 1, none⟩ = some (.slice A0_1 l0_1.length c0_1) ∧ w'.cell? ⟨gb778, 2, none⟩ = some (.slice A0_2 l0_2.length c0_2)) (ds := []) #[false, false, false, false, false, false, false] (by kernel_rfl) rfl rfl ⟨bcu BK778 0, bcu BK778 1, bcu BK778 2⟩ (fun hHeld => ?_)
  generalize w42.drew = w43 at BK778 BK779 HB hHeld ⊢
  refine pure_ (i := 3) (N := some 15) (v := ?_) (a' := ?_) (bl 7 8) rfl rfl (by kernel_rfl) (fun _ _ _ h => h) (Or.inl ⟨by rfl, ?_⟩) ?_ ?_
  rotate_left
  ·intro w'
   go_simp
   with_reducible rfl
  rotate_left
  ·simp only [Act.put, ls, lz, ln, i64_w, i32_w]
   rfl
  refine take_ (i := 0) (N := some 12) (v := ?_) (a' := ?_) (bl 7 9) rfl rfl (by kernel_rfl) (fun _ _ _ h => h) (Or.inl ⟨by rfl, ?_⟩) hHeld ?_ ?_
  rotate_left
  ·rintro w' ⟨s0, s1, s2⟩
   go_simp
   with_reducible rfl
  rotate_left
  ·simp only [Act.put, ls, lz, ln, i64_w, i32_w]
   rfl
  refine take_ (i := 1) (N := some 13) (v := ?_) (a' := ?_) (bl 7 11) rfl rfl (by kernel_rfl) (fun _ _ _ h => h) (Or.inl ⟨by rfl, ?_⟩) hHeld ?_ ?_
  rotate_left
  ·rintro w' ⟨s0, s1, s2⟩
   go_simp
   with_reducible rfl
  rotate_left
  ·simp only [Act.put, ls, lz, ln, i64_w, i32_w]
   rfl
  refine one_ (i := 2) (N := some 14) (bl 7 15) rfl rfl (by kernel_rfl) (by decide) (fun K hK => ?_)
  refine gS Try.func76 #[.agg #[.int .i64 a0_0, .slice A0_1 l0_1.length c0_1, .slice A0_2 l0_2.length c0_2]] ?_
  with_reducible refine (impl_Jacobi_field.calls a0_0 _ _ l0_1 _ _ l0_2 t780 _ ?side1 ?side2 ?side3 ?side4 A3.out).mono ?_
  (case side1 => exact uC ((Kd.C_below HR0_1.out HB.out)))
  (case side2 => exact HC0_1.out)
  (case side3 => exact uC ((Kd.C_below HR0_2.out HB.out)))
  (case side4 => exact HC0_2.out)
  rintro e w44 ⟨rfl, hb⟩
  refine ⟨_, rfl, ?_⟩
  replace BK778 := xB BK778 hb
  replace BK779 := xB BK779 hb
  replace HB := xH HB hb
  (try clear hb); (try clear hb2); (try clear hk); (try clear hi)
  refine hK.out _ _ ⟨bcu BK778 0, bcu BK778 1, bcu BK778 2⟩ (fun hHeld => ?_)
  clear hK K
  refine no_ 14 ?_
  refine one_ (i := 4) (N := some 16) (bl 7 31) rfl rfl (by kernel_rfl) (by decide) (fun K hK => ?_)
  refine gS Try.func77 #[.int .i64 t780, .int .i64 a1] ?_
  with_reducible refine (impl_field_has.calls t780 a1 t781 _ A4.out).mono ?_
  rintro e w' ⟨rfl, ⟨nd, rfl⟩⟩
  refine ⟨_, rfl, ?_⟩
  refine hK.out _ _ ⟨bcu BK778 0, bcu BK778 1, bcu BK778 2⟩ (fun hHeld => ?_)
  clear hK K
  refine no_ 16 ?_
  refine one_ (i := 5) (N := some 17) (bl 7 63) rfl rfl (by kernel_rfl) (by decide) (fun K hK => ?_)
  refine gS Try.func73 #[.agg #[.int .i64 a0_0, .slice A0_1 l0_1.length c0_1, .slice A0_2 l0_2.length c0_2], .bool t781] ?_
  with_reducible refine (impl_jacobiCode.calls k a0_0 _ _ l0_1 _ _ l0_2 t781 t782 _ ?side1 ?side2 ?side3 ?side4 A5.out).mono ?_
  (case side1 => repeat (first | exact (Kd.C_below HR0_1.out (uH HB.out)) | (with_reducible refine Kd.C_alloc ?_ _) | (with_reducible refine Kd.C_drewN ?_ _) | (with_reducible refine Kd.C_drew ?_)))
  (case side2 => exact HC0_1.out)
  (case side3 => repeat (first | exact (Kd.C_below HR0_2.out (uH HB.out)) | (with_reducible refine Kd.C_alloc ?_ _) | (with_reducible refine Kd.C_drewN ?_ _) | (with_reducible refine Kd.C_drew ?_)))
  (case side4 => exact HC0_2.out)
  rintro e w45 ⟨rfl, hb⟩
  refine ⟨_, rfl, ?_⟩
  replace BK778 := xB BK778 hb
  replace BK779 := xB BK779 hb
  replace HB := xH HB hb
  (try clear hb); (try clear hb2); (try clear hk); (try clear hi)
  refine hK.out _ _ ⟨bcu BK778 0, bcu BK778 1, bcu BK778 2⟩ (fun hHeld => ?_)
  clear hK K
  refine no_ 17 ?_
  refine pure_ (i := 6) (N := some 6) (v := ?_) (a' := ?_) (bl 7 127) rfl rfl (by kernel_rfl) (fun _ _ _ h => h) (Or.inl ⟨by rfl, ?_⟩) ?_ ?_
  rotate_left
  ·intro w'
   go_simp
   with_reducible rfl
  rotate_left
  ·simp only [Act.put, ls, lz, ln, i64_w, i32_w]
   rfl
  refine done_ (by kernel_rfl) ?_
  try go_wp2
  replace BK778 := zA (blk_drew BK778.out)
  replace BK779 := zA (blk_drew BK779.out)
  replace HB := zA (below_drew1 HB.out)
  refine start_ (n := 9) (S := fun w' => w'.cell? ⟨gb778, 0, none⟩ = some (.int .i64 a0_0) ∧ w'.cell? ⟨gb778, 1, none⟩ = some (.slice A0_1 l0_1.length c0_1) ∧ w'.cell? ⟨gb778, 2, none⟩ = some (.slice A0_2 l0_2.length c0_2)) (ds := []) #[false, false, false, false, false, false, false, false, false] (by kernel_rfl) rfl rfl ⟨bcu BK778 0, bcu BK778 1, bcu BK778 2⟩ (fun hHeld => ?_); refine with_tabW impl_RadauJacobi.tab4 impl_RadauJacobi.bits4 (fun HT_ HW_ => ?_)
  generalize w45.drew = w46 at BK778 BK779 HB hHeld ⊢
  refine ta_ 0 22 (bl 9 1) HT_ HW_ hHeld ?_
  refine ta_ 2 24 (bl 9 5) HT_ HW_ hHeld ?_
  refine ta_ 4 26 (bl 9 21) HT_ HW_ hHeld ?_
  refine on_ 1 (some 23) (bl 9 23) HT_ (fun K hK => ?_)
  refine gS Try.func76 #[.agg #[.int .i64 a0_0, .slice A0_1 l0_1.length c0_1, .slice A0_2 l0_2.length c0_2]] ?_
  with_reducible refine (impl_Jacobi_field.calls a0_0 _ _ l0_1 _ _ l0_2 t783 _ ?side1 ?side2 ?side3 ?side4 A7.out).mono ?_
  (case side1 => exact uC ((Kd.C_below HR0_1.out HB.out)))
  (case side2 => exact HC0_1.out)
  (case side3 => exact uC ((Kd.C_below HR0_2.out HB.out)))
  (case side4 => exact HC0_2.out)
  rintro e w47 ⟨rfl, hb⟩
  refine ⟨_, rfl, ?_⟩
  replace BK778 := xB BK778 hb
  replace BK779 := xB BK779 hb
  replace HB := xH HB hb
  (try clear hb); (try clear hb2); (try clear hk); (try clear hi)
  refine hK.out _ _ ⟨bcu BK778 0, bcu BK778 1, bcu BK778 2⟩ (fun hHeld => ?_)
  clear hK K
  refine no_ 23 ?_
  refine on_ 3 (some 25) (bl 9 31) HT_ (fun K hK => ?_)
  refine gS Try.func75 #[.agg #[.int .i64 a0_0, .slice A0_1 l0_1.length c0_1, .slice A0_2 l0_2.length c0_2]] ?_
  with_reducible refine (impl_Jacobi_size.calls a0_0 _ _ l0_1 _ _ l0_2 t784 _ ?side1 ?side2 ?side3 ?side4 A8.out).mono ?_
  (case side1 => exact uC ((Kd.C_below HR0_1.out HB.out)))
  (case side2 => exact HC0_1.out)
  (case side3 => exact uC ((Kd.C_below HR0_2.out HB.out)))
  (case side4 => exact HC0_2.out)
  rintro e w48 ⟨rfl, hb⟩
  refine ⟨_, rfl, ?_⟩
  replace BK778 := xB BK778 hb
  replace BK779 := xB BK779 hb
  replace HB := xH HB hb
  (try clear hb); (try clear hb2); (try clear hk); (try clear hi)
  refine hK.out _ _ ⟨bcu BK778 0, bcu BK778 1, bcu BK778 2⟩ (fun hHeld => ?_)
  clear hK K
  refine no_ 25 ?_
  refine on_ 5 (some 27) (bl 9 63) HT_ (fun K hK => ?_)
  refine gS Try.func79 #[.agg #[.int .i64 a0_0, .slice A0_1 l0_1.length c0_1, .slice A0_2 l0_2.length c0_2]] ?_
  with_reducible refine (impl_Jacobi_polys.calls k a0_0 _ _ l0_1 _ _ l0_2 t785 _ ?side1 ?side2 ?side3 ?side4 A9.out).mono ?_
  (case side1 => exact uC ((Kd.C_below HR0_1.out HB.out)))
  (case side2 => exact HC0_1.out)
  (case side3 => exact uC ((Kd.C_below HR0_2.out HB.out)))
  (case side4 => exact HC0_2.out)
  rintro e w49 ⟨v786, rfl, ho0, hb⟩
  refine ⟨_, rfl, ?_⟩
  have HO787 := zA (Kd.N_lower (Kd.N_mono (ok' := fun k_ => k_ ≠ gb778 ∧ k_ ≠ gb779) ho0 (fun k_ hk_ => ⟨(Kd.freshB (g := gb778) (o := .cells #[.int .i64 a0_0, .slice A0_1 l0_1.length c0_1, .slice A0_2 l0_2.length c0_2] 46 (0, 0)) (uB BK778.out) k_ hk_), (Kd.freshB (g := gb779) (o := .cells #[.int .i64 0, .slice none 0 0, .slice none 0 0] 46 (0, 0)) (uB BK779.out) k_ hk_)⟩)) (below_size (uH HB.out)))
  replace BK778 := xB BK778 hb
  replace BK779 := xB BK779 hb
  replace HB := xH HB hb
  (try clear hb); (try clear hb2); (try clear hk); (try clear hi); (try clear ho0)
  refine hK.out _ _ ⟨bcu BK778 0, bcu BK778 1, bcu BK778 2⟩ (fun hHeld => ?_)
  clear hK K
  refine no_ 27 ?_
  refine pu_ 6 7 (bl 9 127) HT_ ?_
  refine pu_ 7 8 (bl 9 255) HT_ ?_
  refine pu_ 8 9 (bl 9 511) HT_ ?_
  refine done_ (done_of HT_.out (by kernel_rfl)) ?_
  obtain ⟨Ao50, co50, eo50⟩ := Kd.N_slice HO787.out
  subst eo50
  have p788 : 0 ≤ ((ji10) : Int) := of_decide_eq_true (by first | (with_reducible assumption) | assumption)
  have q788 : (ji10) < (t785.length : Int) := of_decide_eq_true (by first | (with_reducible assumption) | assumption)
  obtain ⟨ad788, A788_0, c788_0, e788, hx788_0, hl788_0, hi788_0⟩ := at_L1 (Kd.N_reads' HO787.out).2.2 (ji10) p788 q788
  cases e788
  obtain ⟨ce788, hce788, hMe788, hcc788⟩ := Kd.N_get HO787.out [] (ji10) p788 (by first | exact q788 | exact of_decide_eq_true (by first | (with_reducible assumption) | assumption) | (have e_ := (Kd.N_reads' HO787.out).1; omega))
  obtain ⟨ua788_0, uc788_0, rfl, ul788_0, ge788_0⟩ := Kd.FK_slice_open hMe788
  have hv788_0 := hcc788 0 _ rfl
  rw [Nat.add_zero, show ((Kd.slice 2 (Kd.int .i64))).sz = 1 from rfl, Nat.mul_one] at hv788_0
  replace hv788_0 := Option.some.inj (hv788_0.symm.trans hx788_0)
  injection hv788_0 with hva_ hvn_ hvc_
  rw [hva_] at ge788_0
  rw [hvc_] at ul788_0
  have HL788_0 := zA (show Kd.V (Kd.int .i64) 2 _ w.heap.size _ _ (rd_L1 t785 (ji10)) from Kd.V_mk ul788_0 ge788_0)
  clear hva_ hvn_ hvc_ ge788_0 ul788_0
  clear hcc788 hce788
  have HR788_0 := zA hi788_0
  have HC788_0 := zA hl788_0
  clear hi788_0 hl788_0
  replace p788 := eq_true p788
  replace q788 := eq_true q788
  try go_wp2_with (first | ((with_reducible refine gate_callee (f := 78) rfl ?_); refine goesL_ (some 35) rfl rfl Try.func78 (by kernel_rfl) rfl #[.int .i64 t783, .slice A788_0 (rd_L1 t785 (ji10)).length c788_0, .int .i64 a1] rfl (by (try simp only [la, lb, lc]); first | done | (simp only [hji10]; rfl) | rfl | (simp only [ld, le]; rfl)) ?_; (with_reducible refine (impl_field_value.calls t783 _ _ (rd_L1 t785 (ji10)) a1 t789 _ ?side1 ?side2 A13.out).mono ?_); (case side1 => repeat (first | exact (by repeat (first | (with_reducible exact HR788_0.out) | (with_reducible refine Kd.C_alloc ?_ _) | (with_reducible refine Kd.C_drewN ?_ _) | (with_reducible refine Kd.C_drew ?_) | exact HR788_0.out)) | (with_reducible refine Kd.C_alloc ?_ _) | (with_reducible refine Kd.C_drewN ?_ _) | (with_reducible refine Kd.C_drew ?_))); (case side2 => exact HC788_0.out); rintro e w51 ⟨rfl, hb⟩; refine ⟨_, rfl, ?_⟩; replace HO787 := zA (Kd.N_below (by (with_reducible repeat (first | apply Kd.N_alloc | apply Kd.N_drewN | apply Kd.N_drew)); exact HO787.out) hb); replace HL788_0 := zA (Kd.V_below (by (with_reducible repeat (first | apply Kd.V_alloc | apply Kd.V_drewN | apply Kd.V_drew)); exact HL788_0.out) hb); replace BK778 := xB BK778 hb; replace BK779 := xB BK779 hb; replace HR788_0 := zA (Kd.C_below (by repeat (first | (with_reducible exact HR788_0.out) | (with_reducible refine Kd.C_alloc ?_ _) | (with_reducible refine Kd.C_drewN ?_ _) | (with_reducible refine Kd.C_drew ?_) | exact HR788_0.out)) hb); replace HB := xH HB hb; (try clear hb); (try clear hb2); (try clear hk); (try clear hi); have hnb52 := NB778_779.out; have hnc52 := NB779_778.out; have hcz53_0 := bc BK778 0; have hcz53_1 := bc BK778 1; have hcz53_2 := bc BK778 2; have hfz53_0 := bf BK778 0; have hfz53_1 := bf BK778 1; have hfz53_2 := bf BK778 2) | ((with_reducible refine gate_callee (f := 87) rfl ?_); refine gL (some 41) Try.func87 #[.agg #[.int .i64 a0_0, .slice A0_1 l0_1.length c0_1, .slice A0_2 l0_2.length c0_2], .int .i64 0, .int .i64 t784] ?_; (with_reducible refine (impl_Jacobi_part.calls a0_0 _ _ l0_1 _ _ l0_2 0 t784 t790 t791 t794 _ ?side1 ?side2 ?side3 ?side4 A28.out).mono ?_); (case side1 => exact uC ((Kd.C_below HR0_1.out HB.out))); (case side2 => exact HC0_1.out); (case side3 => exact uC ((Kd.C_below HR0_2.out HB.out))); (case side4 => exact HC0_2.out); rintro e w54 ⟨v792, v795, rfl, ho0, ho1, hb⟩; refine ⟨_, rfl, ?_⟩; replace HO787 := zA (Kd.N_mono (Kd.N_told (Kd.N_told (Kd.N_old (by (with_reducible repeat (first | apply Kd.N_alloc | apply Kd.N_drewN | apply Kd.N_drew)); exact HO787.out) hb) (Kd.R_base ho0)) (Kd.R_base ho1)) (fun _ h_ => h_.1)); replace HL788_0 := zA (Kd.V_mono (Kd.V_told (Kd.V_told (Kd.V_old (by (with_reducible repeat (first | apply Kd.V_alloc | apply Kd.V_drewN | apply Kd.V_drew)); exact HL788_0.out) hb) (Kd.R_base ho0)) (Kd.R_base ho1)) (fun _ h_ => h_.1)); have HO793 := zA (Kd.R_lower ho0 (below_size (uH HB.out))); have HO796 := zA (Kd.R_lower ho1 (below_size (uH HB.out))); replace BK778 := xB BK778 hb; replace BK779 := xB BK779 hb; replace HR788_0 := zA (Kd.C_below (by repeat (first | (with_reducible exact HR788_0.out) | (with_reducible refine Kd.C_alloc ?_ _) | (with_reducible refine Kd.C_drewN ?_ _) | (with_reducible refine Kd.C_drew ?_) | exact HR788_0.out)) hb); replace HB := xH HB hb; (try clear hb); (try clear hb2); (try clear hk); (try clear hi); (try clear ho0); (try clear ho1)) | ((with_reducible refine gate_dst (N := 11) rfl ?_); refine bx 11 #[.int .i64 0, .slice none 0 0, .slice none 0 0] 46 ?_; intro gb797 hg w55 hbox hb; replace HO787 := zA (Kd.N_below (Kd.N_elderB (by (with_reducible repeat (first | apply Kd.N_alloc | apply Kd.N_drewN | apply Kd.N_drew)); exact HO787.out) gb797 (Nat.le_of_eq hg.symm)) hb); replace HL788_0 := zA (Kd.V_below (Kd.V_elderB (by (with_reducible repeat (first | apply Kd.V_alloc | apply Kd.V_drewN | apply Kd.V_drew)); exact HL788_0.out) gb797 (Nat.le_of_eq hg.symm)) hb); replace HO793 := xR HO793 hb; replace HO796 := xR HO796 hb; replace HR788_0 := zA (Kd.C_below (by repeat (first | (with_reducible exact HR788_0.out) | (with_reducible refine Kd.C_alloc ?_ _) | (with_reducible refine Kd.C_drewN ?_ _) | (with_reducible refine Kd.C_drew ?_) | exact HR788_0.out)) hb); have BK797 := zA (hbox); have GW797 := gq HB hg; have GE797 := gq HB hg; replace HB := xH HB hb; have NB778_797 := zA ((by rw [hg]; exact neL BK778 : gb778 ≠ gb797)); have NB797_778 := zA ((by rw [hg]; exact neG BK778 : gb797 ≠ gb778)); replace BK778 := xB BK778 hb; have NB779_797 := zA ((by rw [hg]; exact neL BK779 : gb779 ≠ gb797)); have NB797_779 := zA ((by rw [hg]; exact neG BK779 : gb797 ≠ gb779)); replace BK779 := xB BK779 hb; have := geI GE797; clear hb hbox hg; have hnb56 := NB797_778.out; have hnc56 := NB778_797.out; have hnb57 := NB797_779.out; have hnc57 := NB779_797.out; have hcz58_0 := bc BK797 0; have hcz58_1 := bc BK797 1; have hcz58_2 := bc BK797 2; have hfz58_0 := bf BK797 0; have hfz58_1 := bf BK797 1; have hfz58_2 := bf BK797 2; obtain ⟨Ao59, co59, eo59⟩ := Kd.R_slice HO793.out; subst eo59; obtain ⟨Ao60, co60, eo60⟩ := Kd.R_slice HO796.out; subst eo60) | ((with_reducible refine gate_store (t := 46) (p := 11) rfl ?_); refine store_event (t := 46) (p := 11) (v := ?vo_w61) (w1 := (((w55.setCell ⟨gb797, 0, none⟩ (.int .i64 t790)).setCell ⟨gb797, 1, none⟩ (.slice Ao59 t791.length co59)).setCell ⟨gb797, 2, none⟩ (.slice Ao60 t794.length co60))) ?hg ?ho ?hn ?hr ?_; (case ho => rfl); (case hg => rfl); (case hn => rfl); (case hr => first | (go_simp; done) | (go_simp; rfl)); intro w61 hw; have n0_ : Aside0 (Kd.N (Kd.slice 2 (Kd.int .i64)) 22 w61 w.heap.size (fun k_ => ax k_ (.slice Ao59 t791.length co59) ∧ ax k_ (.slice Ao60 t794.length co60) ∧ k_ ≠ gb778 ∧ k_ ≠ gb779 ∧ k_ ≠ gb797) (.slice (some ad788) t785.length co50) t785) := ⟨(by rw [hw]; exact (by (with_reducible repeat (first | apply Kd.N_alloc | apply Kd.N_drewN | apply Kd.N_drew)); exact Kd.N_mono (Kd.N_far (p := ⟨gb797, 2, none⟩) (Kd.N_far (p := ⟨gb797, 1, none⟩) (Kd.N_far (p := ⟨gb797, 0, none⟩) (Kd.N_mono HO787.out (fun k_ hk => (⟨hk, hk.2⟩ : _ ∧ k_ ≠ gb797))) (fun _ hk => hk.2) (.int .i64 t790)) (fun _ hk => hk.2) (.slice Ao59 t791.length co59)) (fun _ hk => hk.2) (.slice Ao60 t794.length co60)) (fun _ hk => ⟨hk.1.1.1.2, ⟨hk.1.1.2, ⟨hk.1.1.1.1.1, ⟨hk.1.1.1.1.2, hk.1.2⟩⟩⟩⟩)))⟩; have n1_ : Aside0 (Kd.V (Kd.int .i64) 2 w61 w.heap.size (fun k_ => ax k_ (.slice (some ad788) t785.length co50) ∧ ax k_ (.slice Ao59 t791.length co59) ∧ ax k_ (.slice Ao60 t794.length co60) ∧ k_ ≠ gb778 ∧ k_ ≠ gb779 ∧ k_ ≠ gb797) (.slice A788_0 (rd_L1 t785 (ji10)).length c788_0) (rd_L1 t785 (ji10))) := ⟨(by rw [hw]; exact (by (with_reducible repeat (first | apply Kd.V_alloc | apply Kd.V_drewN | apply Kd.V_drew)); exact Kd.V_mono (Kd.V_far (p := ⟨gb797, 2, none⟩) (Kd.V_far (p := ⟨gb797, 1, none⟩) (Kd.V_far (p := ⟨gb797, 0, none⟩) (Kd.V_mono HL788_0.out (fun k_ hk => (⟨hk, hk.2⟩ : _ ∧ k_ ≠ gb797))) (fun _ hk => hk.2) (.int .i64 t790)) (fun _ hk => hk.2) (.slice Ao59 t791.length co59)) (fun _ hk => hk.2) (.slice Ao60 t794.length co60)) (fun _ hk => ⟨hk.1.1.1.1.2, ⟨hk.1.1.1.2, ⟨hk.1.1.2, ⟨hk.1.1.1.1.1.1, ⟨hk.1.1.1.1.1.2, hk.1.2⟩⟩⟩⟩⟩)))⟩; have n2_ : Aside0 (Kd.R (Kd.int .i64) 2 w61 w.heap.size (fun k_ => ax k_ (.slice Ao60 t794.length co60)) (.slice Ao59 t791.length co59) t791) := ⟨(by rw [hw]; exact (uR (rf3 HO793 BK797 (by decide) (.int .i64 t790) (.slice Ao59 t791.length co59) (.slice Ao60 t794.length co60))))⟩; have n3_ : Aside0 (Kd.R (Kd.int .i64) 2 w61 w.heap.size (fun k_ => ax k_ (.slice Ao59 t791.length co59)) (.slice Ao60 t794.length co60) t794) := ⟨(by rw [hw]; exact (uR (rf3 HO796 BK797 (by decide) (.int .i64 t790) (.slice Ao59 t791.length co59) (.slice Ao60 t794.length co60))))⟩; have n4_ : Aside0 (w61.heap[gb778]? = some (.cells #[.int .i64 a0_0, .slice A0_1 l0_1.length c0_1, .slice A0_2 l0_2.length c0_2] 46 (0, 0))) := ⟨(by rw [hw]; exact (by (repeat refine up1 ?_); refine blk_far ?_ NB778_797.out _; (repeat refine up1 ?_); refine blk_far ?_ NB778_797.out _; (repeat refine up1 ?_); refine blk_far ?_ NB778_797.out _; (repeat refine up1 ?_); exact BK778.out))⟩; have n5_ : Aside0 (w61.heap[gb779]? = some (.cells #[.int .i64 0, .slice none 0 0, .slice none 0 0] 46 (0, 0))) := ⟨(by rw [hw]; exact (by (repeat refine up1 ?_); refine blk_far ?_ NB779_797.out _; (repeat refine up1 ?_); refine blk_far ?_ NB779_797.out _; (repeat refine up1 ?_); refine blk_far ?_ NB779_797.out _; (repeat refine up1 ?_); exact BK779.out))⟩; have n6_ : Aside0 (w61.heap[gb797]? = some (.cells #[.int .i64 t790, .slice Ao59 t791.length co59, .slice Ao60 t794.length co60] 46 (0, 0))) := ⟨(by rw [hw]; exact (by (repeat refine up1 ?_); refine blk_put (cs := #[.int .i64 t790, .slice Ao59 t791.length co59, .slice none 0 0]) ?_ 2 _ rfl; (repeat refine up1 ?_); refine blk_put (cs := #[.int .i64 t790, .slice none 0 0, .slice none 0 0]) ?_ 1 _ rfl; (repeat refine up1 ?_); refine blk_put (cs := #[.int .i64 0, .slice none 0 0, .slice none 0 0]) ?_ 0 _ rfl; (repeat refine up1 ?_); exact BK797.out))⟩; have n7_ : Aside0 (Below w.heap.size w w61) := ⟨(by rw [hw]; exact (uH HB.out))⟩; clear hw HO787 HL788_0 HO793 HO796 BK778 BK779 BK797 HB; have HO787 := n0_; have HL788_0 := n1_; have HO793 := n2_; have HO796 := n3_; have BK778 := n4_; have BK779 := n5_; have BK797 := n6_; have HB := n7_; clear n0_ n1_ n2_ n3_ n4_ n5_ n6_ n7_; have hcz62_0 := bc BK797 0; have hcz62_1 := bc BK797 1; have hcz62_2 := bc BK797 2; have hfz62_0 := bf BK797 0; have hfz62_1 := bf BK797 1; have hfz62_2 := bf BK797 2; have p30 : 0 ≤ ((ji10) : Int) := of_decide_eq_true (by first | (with_reducible assumption) | assumption); have q30 : ((ji10) : Int) < ((t791.length : Int) : Int) := of_decide_eq_true (by first | (with_reducible assumption) | assumption); obtain ⟨go30, co30, eo30, gb30, gl30, cl30, HG30⟩ := Kd.R_form HO793.out (by omega); (first | cases eo30 | (injection eo30 with ea_ en_ ec_; (first | subst ea_ | (injection ea_ with ea_; subst ea_)); subst ec_; clear en_)); have GB30 := zA gb30; have := geI GB30; have GG30 := zA HG30; clear gb30 gl30 HG30; obtain ⟨hx30_0, hf30_0⟩ := Kd.R_celln 0 HO793.out ((ji10) : Int) p30 q30; replace p30 := eq_true p30; replace q30 := eq_true q30; obtain ⟨hy63_, hz63_⟩ := Kd.R_celln 0 HO793.out ((ji10) : Int) (of_decide_eq_true (by first | (with_reducible assumption) | assumption)) (of_decide_eq_true (by first | (with_reducible assumption) | assumption)); have HP63 := Kd.R_putg HO793.out ((ji10) : Int) a1) | ((with_reducible refine gate_store (t := 2) (p := 47) rfl ?_); refine store_event (t := 2) (p := 47) (v := ?vo_w64) (w1 := (w61.setCell ⟨go30, ((ji10) : Int).toNat, none⟩ (.int .i64 a1))) ?hg ?ho ?hn ?hr ?_; (case ho => rfl); (case hg => rfl); (case hn => rfl); (case hr => first | (go_simp; done) | (go_simp; rfl)); intro w64 hw; have hg : w61.grownBy w64 (some go30) := (by rw [hw]; exact HP63.2); have hp_ : Kd.R (Kd.int .i64) 2 w64 w.heap.size (fun k_ => ax k_ (.slice Ao60 t794.length co60)) (.slice (some ⟨go30, 0, none⟩) t791.length co59) y798 := (by rw [hw, Ny798.out]; exact HP63.1); clear HP63; replace BK778 := zA (blk_grown (g := gb778) (o := .cells #[.int .i64 a0_0, .slice A0_1 l0_1.length c0_1, .slice A0_2 l0_2.length c0_2] 46 (0, 0)) (uB BK778.out) hg (Kd.R_ne HO793.out BK778.out (by decide))); replace BK779 := zA (blk_grown (g := gb779) (o := .cells #[.int .i64 0, .slice none 0 0, .slice none 0 0] 46 (0, 0)) (uB BK779.out) hg (Kd.R_ne HO793.out BK779.out (by decide))); replace HO787 := zA (Kd.N_afterv (v := (.slice (some ⟨go30, 0, none⟩) t791.length co59)) (v1 := (.slice (some ⟨go30, 0, none⟩) t791.length co59)) (ok := (fun k_ => ax k_ (.slice Ao60 t794.length co60) ∧ k_ ≠ gb778 ∧ k_ ≠ gb779 ∧ k_ ≠ gb797)) (by (with_reducible repeat (first | apply Kd.N_alloc | apply Kd.N_drewN | apply Kd.N_drew)); exact Kd.N_mono HO787.out (fun _ hk => ⟨⟨hk.2.1, ⟨hk.2.2.1, ⟨hk.2.2.2.1, hk.2.2.2.2⟩⟩⟩, hk.1⟩)) hg (.inl rfl)); replace HL788_0 := zA (Kd.V_afterv (v := (.slice (some ⟨go30, 0, none⟩) t791.length co59)) (v1 := (.slice (some ⟨go30, 0, none⟩) t791.length co59)) (ok := (fun k_ => ax k_ (.slice (some ad788) t785.length co50) ∧ ax k_ (.slice Ao60 t794.length co60) ∧ k_ ≠ gb778 ∧ k_ ≠ gb779 ∧ k_ ≠ gb797)) (by (with_reducible repeat (first | apply Kd.V_alloc | apply Kd.V_drewN | apply Kd.V_drew)); exact Kd.V_mono HL788_0.out (fun _ hk => ⟨⟨hk.1, ⟨hk.2.2.1, ⟨hk.2.2.2.1, ⟨hk.2.2.2.2.1, hk.2.2.2.2.2⟩⟩⟩⟩, hk.2.1⟩)) hg (.inl rfl)); replace HO796 := zA (Kd.R_after (v := (.slice (some ⟨go30, 0, none⟩) t791.length co59)) (v1 := (.slice (some ⟨go30, 0, none⟩) t791.length co59)) (ok := (fun _ => True)) (uR (Kd.R_mono HO796.out (fun _ hk => ⟨trivial, hk⟩))) hg (.inl rfl)); replace BK797 := zA (blk_grown (g := gb797) (o := .cells #[.int .i64 t790, .slice (some ⟨go30, 0, none⟩) t791.length co59, .slice Ao60 t794.length co60] 46 (0, 0)) (uB BK797.out) hg (Kd.R_ne HO793.out BK797.out (by decide))); replace HO793 := zA (hp_); replace HB := zA ((by rw [hw]; exact below_set (HB.out) GB30.out : Below w.heap.size w w64)); clear hg hw hp_))
  replace HO787 := zA (Kd.N_drew HO787.out)
  replace HL788_0 := zA (Kd.V_drew HL788_0.out)
  replace HO793 := zA (Kd.R_drew HO793.out)
  replace HO796 := zA (Kd.R_drew HO796.out)
  replace BK778 := zA (blk_drew BK778.out)
  replace BK779 := zA (blk_drew BK779.out)
  replace BK797 := zA (blk_drew BK797.out)
  replace HB := zA (below_drew1 HB.out)
  have p799 : 0 ≤ ((ji10) : Int) := of_decide_eq_true (by first | (with_reducible assumption) | assumption)
  have q799 : (ji10) < (l0_2.length : Int) := of_decide_eq_true (by first | (with_reducible assumption) | assumption)
  obtain ⟨ad799, e799, hx799_0⟩ := Kd.at_int HR0_2.out (ji10) p799 q799
  have hw799_0 := hx799_0
  cases e799
  replace hx799_0 := hc HB hx799_0
  replace p799 := eq_true p799
  replace q799 := eq_true q799
  have p800 : 0 ≤ ((ji33) : Int) := of_decide_eq_true (by first | (with_reducible assumption) | assumption)
  have q800 : (ji33) < (t785.length : Int) := of_decide_eq_true (by first | (with_reducible assumption) | assumption)
  obtain ⟨ad800, A800_0, c800_0, e800, hx800_0, hl800_0, hi800_0⟩ := at_L1 (Kd.N_reads' HO787.out).2.2 (ji33) p800 q800
  obtain rfl : ad788 = ad800 := (by injection e800)
  obtain ⟨ce800, hce800, hMe800, hcc800⟩ := Kd.N_get HO787.out [] (ji33) p800 (by first | exact q800 | exact of_decide_eq_true (by first | (with_reducible assumption) | assumption) | (have e_ := (Kd.N_reads' HO787.out).1; omega))
  obtain ⟨ua800_0, uc800_0, rfl, ul800_0, ge800_0⟩ := Kd.FK_slice_open hMe800
  have hv800_0 := hcc800 0 _ rfl
  rw [Nat.add_zero, show ((Kd.slice 2 (Kd.int .i64))).sz = 1 from rfl, Nat.mul_one] at hv800_0
  replace hv800_0 := Option.some.inj (hv800_0.symm.trans hx800_0)
  injection hv800_0 with hva_ hvn_ hvc_
  rw [hva_] at ge800_0
  rw [hvc_] at ul800_0
  have HL800_0 := zA (show Kd.V (Kd.int .i64) 2 _ w.heap.size _ _ (rd_L1 t785 (ji33)) from Kd.V_mk ul800_0 ge800_0)
  clear hva_ hvn_ hvc_ ge800_0 ul800_0
  clear hcc800 hce800
  have HR800_0 := zA hi800_0
  have HC800_0 := zA hl800_0
  clear hi800_0 hl800_0
  replace p800 := eq_true p800
  replace q800 := eq_true q800
  refine start_ (n := 29) (S := fun w' => w'.cell? ⟨gb797, 0, none⟩ = some (.int .i64 t790) ∧ w'.cell? ⟨gb797, 1, none⟩ = some (.slice (some ⟨go30, 0, none⟩) t791.length co59) ∧ w'.cell? ⟨gb797, 2, none⟩ = some (.slice Ao60 t794.length co60) ∧ w'.cell? ⟨gb778, 0, none⟩ = some (.int .i64 a0_0) ∧ w'.cell? ⟨gb778, 1, none⟩ = some (.slice A0_1 l0_1.length c0_1) ∧ w'.cell? ⟨gb778, 2, none⟩ = some (.slice (some ad799) l0_2.length c0_2) ∧ w'.cell? (ad799.add ((ji10)).toNat) = some (.int .i64 (rd l0_2 (ji10))) ∧ w'.cell? (ad788.add ((ji33)).toNat) = some (.slice A800_0 (rd_L1 t785 (ji33)).length c800_0)) (ds := [28]) #[false, false, false, false, false, false, false, false, false, false, false, false, false, false, false, false, false, false, false, false, false, false, false, false, false, false, false, false, false] (by kernel_rfl) rfl rfl ⟨bcu BK797 0, bcu BK797 1, bcu BK797 2, bcu BK778 0, bcu BK778 1, bcu BK778 2, (hcu HB hw799_0), hx800_0⟩ (fun hHeld => ?_); refine with_tabW impl_RadauJacobi.tab11 impl_RadauJacobi.bits11 (fun HT_ HW_ => ?_)
  generalize w64.drew = w65 at HO787 HL788_0 HO793 HO796 BK778 BK779 BK797 HB HL800_0 HR800_0 hx799_0 hx800_0 hHeld ⊢
  refine pu_ 0 50 (bl 29 1) HT_ ?_
  refine pu_ 2 52 (bl 29 5) HT_ ?_
  refine pu_ 3 53 (bl 29 13) HT_ ?_
  refine pu_ 4 54 (bl 29 29) HT_ ?_
  refine pu_ 5 55 (bl 29 61) HT_ ?_
  refine pu_ 6 56 (bl 29 125) HT_ ?_
  refine pu_ 7 57 (bl 29 253) HT_ ?_
  refine pu_ 9 59 (bl 29 765) HT_ ?_
  refine pu_ 10 60 (bl 29 1789) HT_ ?_
  refine pu_ 13 63 (bl 29 9981) HT_ ?_
  refine pu_ 14 64 (bl 29 26365) HT_ ?_
  refine pu_ 15 65 (bl 29 59133) HT_ ?_
  refine pu_ 16 66 (bl 29 124669) HT_ ?_
  refine pu_ 17 67 (bl 29 255741) HT_ ?_
  refine pu_ 18 68 (bl 29 517885) HT_ ?_
  refine pu_ 20 70 (bl 29 1566461) HT_ ?_
  refine pu_ 22 72 (bl 29 5760765) HT_ ?_
  refine ta_ 1 51 (bl 29 5760767) HT_ HW_ hHeld ?_
  refine ta_ 8 58 (bl 29 5761023) HT_ HW_ hHeld ?_
  refine pu_ 11 61 (bl 29 5763071) HT_ ?_
  refine ta_ 12 62 (bl 29 5767167) HT_ HW_ hHeld ?_
  refine ta_ 19 69 (bl 29 6291455) HT_ HW_ hHeld ?_
  refine on_ 21 (some 71) (bl 29 8388607) HT_ (fun K hK => ?_)
  refine goes_ Try.func78 (by kernel_rfl) rfl #[.int .i64 t783, .slice A800_0 (rd_L1 t785 (ji33)).length c800_0, .int .i64 a1] (by rfl) rfl rfl (by (try simp only [la, lb, lc]); first | done | (simp only [hji33]; rfl) | rfl | (simp only [ld, le]; rfl)) ?_
  with_reducible refine (impl_field_value.calls t783 _ _ (rd_L1 t785 (ji33)) a1 t801 _ ?side1 ?side2 A36.out).mono ?_
  (case side1 => repeat (first | exact (by repeat (first | (with_reducible exact HR800_0.out) | (with_reducible refine Kd.C_alloc ?_ _) | (with_reducible refine Kd.C_drewN ?_ _) | (with_reducible refine Kd.C_drew ?_) | exact HR800_0.out)) | (with_reducible refine Kd.C_alloc ?_ _) | (with_reducible refine Kd.C_drewN ?_ _) | (with_reducible refine Kd.C_drew ?_)))
  (case side2 => exact HC800_0.out)
  rintro e w66 ⟨rfl, hb⟩
  have HS7_ := (hb.cell (World.block_lt_of_cell? _ _ (hHeld.2.2.2.2.2.2.2))).trans (hHeld.2.2.2.2.2.2.2)
  refine ⟨_, rfl, ?_⟩
  replace HO787 := zA (Kd.N_below (by (with_reducible repeat (first | apply Kd.N_alloc | apply Kd.N_drewN | apply Kd.N_drew)); exact HO787.out) hb)
  replace HL788_0 := zA (Kd.V_below (by (with_reducible repeat (first | apply Kd.V_alloc | apply Kd.V_drewN | apply Kd.V_drew)); exact HL788_0.out) hb)
  replace HO793 := xR HO793 hb
  replace HO796 := xR HO796 hb
  replace HL800_0 := zA (Kd.V_below (by (with_reducible repeat (first | apply Kd.V_alloc | apply Kd.V_drewN | apply Kd.V_drew)); exact HL800_0.out) hb)
  replace BK778 := xB BK778 hb
  replace BK779 := xB BK779 hb
  replace BK797 := xB BK797 hb
  replace HR800_0 := zA (Kd.C_below (by repeat (first | (with_reducible exact HR800_0.out) | (with_reducible refine Kd.C_alloc ?_ _) | (with_reducible refine Kd.C_drewN ?_ _) | (with_reducible refine Kd.C_drew ?_) | exact HR800_0.out)) hb)
  replace HB := xH HB hb
  (try clear hb); (try clear hb2); (try clear hk); (try clear hi)
  refine hK.out _ _ ⟨bcu BK797 0, bcu BK797 1, bcu BK797 2, bcu BK778 0, bcu BK778 1, bcu BK778 2, (hcu HB hw799_0), HS7_⟩ (fun hHeld => ?_)
  clear hK K
  refine no_ 71 ?_
  refine on_ 23 (some 73) (bl 29 16777215) HT_ (fun K hK => ?_)
  refine gS Try.func90 #[.int .i64 t783, .int .i64 t801, .int .i64 t789] ?_
  with_reducible refine (impl_field_div.calls k t783 t801 t789 t802 _ A37.out).mono ?_
  rintro e w' ⟨rfl, ⟨nd, rfl⟩⟩
  refine ⟨_, rfl, ?_⟩
  refine hK.out _ _ ⟨bcu BK797 0, bcu BK797 1, bcu BK797 2, bcu BK778 0, bcu BK778 1, bcu BK778 2, (hcu HB hw799_0), hHeld.2.2.2.2.2.2.2⟩ (fun hHeld => ?_)
  clear hK K
  refine no_ 73 ?_
  refine on_ 24 (some 74) (bl 29 33554431) HT_ (fun K hK => ?_)
  refine goes_ Try.func89 (by kernel_rfl) rfl #[.int .i64 t783, .int .i64 (rd l0_2 (ji10)), .int .i64 t802] (by rfl) rfl rfl (by (try simp only [la, lb, lc]); first | done | (simp only [hji10]; rfl) | rfl | (simp only [ld, le]; rfl)) ?_
  with_reducible refine (impl_field_mul.calls t783 (rd l0_2 (ji10)) t802 t803 _ A38.out).mono ?_
  rintro e w' ⟨rfl, ⟨nd, rfl⟩⟩
  refine ⟨_, rfl, ?_⟩
  refine hK.out _ _ ⟨bcu BK797 0, bcu BK797 1, bcu BK797 2, bcu BK778 0, bcu BK778 1, bcu BK778 2, (hcu HB hw799_0), hHeld.2.2.2.2.2.2.2⟩ (fun hHeld => ?_)
  clear hK K
  refine no_ 74 ?_
  refine pu_ 25 75 (bl 29 67108863) HT_ ?_
  refine on_ 26 (some 76) (bl 29 134217727) HT_ (fun K hK => ?_)
  refine gS Try.func88 #[.int .i64 t783, .int .i64 (wrap64 (a1 - t803))] ?_
  with_reducible refine (impl_field_mod.calls t783 (wrap64 (a1 - t803)) t804 _ A39.out).mono ?_
  rintro e w' ⟨rfl, ⟨nd, rfl⟩⟩
  refine ⟨_, rfl, ?_⟩
  have p40 : 0 ≤ ((ji10) : Int) := of_decide_eq_true (by first | (with_reducible assumption) | assumption)
  have q40 : ((ji10) : Int) < ((t791.length : Int) : Int) := of_decide_eq_true (by first | (with_reducible assumption) | assumption)
  obtain ⟨hx40_0, hf40_0⟩ := Kd.R_celln 0 HO793.out ((ji10) : Int) p40 q40
  replace p40 := eq_true p40
  replace q40 := eq_true q40
  have HP67 := Kd.R_putn HO793.out ((ji10) : Int) t804
  rw [← Ny805.out] at HP67
  have HQ67 := zA HP67
  clear HP67
  refine hK.out _ _ ⟨bcu BK797 0, bcu BK797 1, bcu BK797 2, bcu BK778 0, bcu BK778 1, bcu BK778 2, (hcu HB hw799_0), hHeld.2.2.2.2.2.2.2⟩ (fun hHeld => ?_)
  clear hK K
  refine no_ 76 ?_
  refine pu_ 27 77 (bl 29 268435455) HT_ ?_
  refine last_ (i := 28) (N := none) (bl 29 536870911) rfl rfl (one_of HT_.out (by kernel_rfl)) (by decide) (fun K hK => ?_)
  refine skip_ (w1 := ?_) (by rfl) rfl ?_ ?_
  rotate_left
  ·go_simp
   rfl
  refine hK.out _ _ ?_
  clear hK K
  refine done_ (done_of HT_.out (by kernel_rfl)) ?_
  have n0_ : Aside0 (Kd.N (Kd.slice 2 (Kd.int .i64)) 22 (w66.setCell ⟨go30, ((ji10) : Int).toNat, none⟩ (.int .i64 t804)) w.heap.size (fun k_ => ax k_ (.slice (some ⟨go30, 0, none⟩) t791.length co59) ∧ ax k_ (.slice Ao60 t794.length co60) ∧ k_ ≠ gb778 ∧ k_ ≠ gb779 ∧ k_ ≠ gb797) (.slice (some ad788) t785.length co50) t785) := ⟨by (with_reducible repeat (first | apply Kd.N_alloc | apply Kd.N_drewN | apply Kd.N_drew)); exact Kd.N_mono (Kd.N_far (p := ⟨go30, ((ji10) : Int).toNat, none⟩) (Kd.N_mono HO787.out (fun k_ hk => (⟨hk, fun e_ => hk.2 (by rw [e_]; rfl)⟩ : _ ∧ k_ ≠ go30))) (fun _ hk => hk.2) (.int .i64 t804)) (fun _ hk => ⟨hk.1.2, ⟨hk.1.1.1, ⟨hk.1.1.2.1, ⟨hk.1.1.2.2.1, hk.1.1.2.2.2⟩⟩⟩⟩)⟩
  have n1_ : Aside0 (Kd.V (Kd.int .i64) 2 (w66.setCell ⟨go30, ((ji10) : Int).toNat, none⟩ (.int .i64 t804)) w.heap.size (fun k_ => ax k_ (.slice (some ad788) t785.length co50) ∧ ax k_ (.slice (some ⟨go30, 0, none⟩) t791.length co59) ∧ ax k_ (.slice Ao60 t794.length co60) ∧ k_ ≠ gb778 ∧ k_ ≠ gb779 ∧ k_ ≠ gb797) (.slice A788_0 (rd_L1 t785 (ji10)).length c788_0) (rd_L1 t785 (ji10))) := ⟨by (with_reducible repeat (first | apply Kd.V_alloc | apply Kd.V_drewN | apply Kd.V_drew)); exact Kd.V_mono (Kd.V_far (p := ⟨go30, ((ji10) : Int).toNat, none⟩) (Kd.V_mono HL788_0.out (fun k_ hk => (⟨hk, fun e_ => hk.2 (by rw [e_]; rfl)⟩ : _ ∧ k_ ≠ go30))) (fun _ hk => hk.2) (.int .i64 t804)) (fun _ hk => ⟨hk.1.1.1, ⟨hk.1.2, ⟨hk.1.1.2.1, ⟨hk.1.1.2.2.1, ⟨hk.1.1.2.2.2.1, hk.1.1.2.2.2.2⟩⟩⟩⟩⟩)⟩
  have n2_ : Aside0 (Kd.R (Kd.int .i64) 2 (w66.setCell ⟨go30, ((ji10) : Int).toNat, none⟩ (.int .i64 t804)) w.heap.size (fun k_ => ax k_ (.slice Ao60 t794.length co60)) (.slice (some ⟨go30, 0, none⟩) t791.length co59) y805) := ⟨uR HQ67.out⟩
  have n3_ : Aside0 (Kd.R (Kd.int .i64) 2 (w66.setCell ⟨go30, ((ji10) : Int).toNat, none⟩ (.int .i64 t804)) w.heap.size (fun k_ => ax k_ (.slice (some ⟨go30, 0, none⟩) t791.length co59)) (.slice Ao60 t794.length co60) t794) := ⟨uR (Kd.R_mono (Kd.R_far (p := ⟨go30, ((ji10) : Int).toNat, none⟩) (Kd.R_mono HO796.out (fun k_ hk => (⟨hk, fun e_ => hk.2 (by rw [e_]; rfl)⟩ : _ ∧ k_ ≠ go30))) (fun _ hk => hk.2) (.int .i64 t804)) (fun _ hk => hk.1.2))⟩
  have n4_ : Aside0 (Kd.V (Kd.int .i64) 2 (w66.setCell ⟨go30, ((ji10) : Int).toNat, none⟩ (.int .i64 t804)) w.heap.size (fun k_ => ax k_ (.slice (some ad788) t785.length co50) ∧ ax k_ (.slice (some ⟨go30, 0, none⟩) t791.length co59) ∧ ax k_ (.slice Ao60 t794.length co60) ∧ k_ ≠ gb778 ∧ k_ ≠ gb779 ∧ k_ ≠ gb797) (.slice A800_0 (rd_L1 t785 (ji33)).length c800_0) (rd_L1 t785 (ji33))) := ⟨by (with_reducible repeat (first | apply Kd.V_alloc | apply Kd.V_drewN | apply Kd.V_drew)); exact Kd.V_mono (Kd.V_far (p := ⟨go30, ((ji10) : Int).toNat, none⟩) (Kd.V_mono HL800_0.out (fun k_ hk => (⟨hk, fun e_ => hk.1.2 (by rw [e_]; rfl)⟩ : _ ∧ k_ ≠ go30))) (fun _ hk => hk.2) (.int .i64 t804)) (fun _ hk => ⟨hk.1.2, ⟨hk.1.1.2, ⟨hk.1.1.1.1, ⟨hk.1.1.1.2.1, ⟨hk.1.1.1.2.2.1, hk.1.1.1.2.2.2⟩⟩⟩⟩⟩)⟩
  have n5_ : Aside0 ((w66.setCell ⟨go30, ((ji10) : Int).toNat, none⟩ (.int .i64 t804)).heap[gb778]? = some (.cells #[.int .i64 a0_0, .slice A0_1 l0_1.length c0_1, .slice (some ad799) l0_2.length c0_2] 46 (0, 0))) := ⟨by (repeat refine up1 ?_); refine blk_far ?_ (by have h_ := Kd.R_ne HO793.out BK778.out (by decide); intro e_; exact h_ (by rw [e_]; rfl)) _; (repeat refine up1 ?_); exact BK778.out⟩
  have n6_ : Aside0 ((w66.setCell ⟨go30, ((ji10) : Int).toNat, none⟩ (.int .i64 t804)).heap[gb779]? = some (.cells #[.int .i64 0, .slice none 0 0, .slice none 0 0] 46 (0, 0))) := ⟨by (repeat refine up1 ?_); refine blk_far ?_ (by have h_ := Kd.R_ne HO793.out BK779.out (by decide); intro e_; exact h_ (by rw [e_]; rfl)) _; (repeat refine up1 ?_); exact BK779.out⟩
  have n7_ : Aside0 ((w66.setCell ⟨go30, ((ji10) : Int).toNat, none⟩ (.int .i64 t804)).heap[gb797]? = some (.cells #[.int .i64 t790, .slice (some ⟨go30, 0, none⟩) t791.length co59, .slice Ao60 t794.length co60] 46 (0, 0))) := ⟨by (repeat refine up1 ?_); refine blk_far ?_ (by have h_ := Kd.R_ne HO793.out BK797.out (by decide); intro e_; exact h_ (by rw [e_]; rfl)) _; (repeat refine up1 ?_); exact BK797.out⟩
  have n8_ : Aside0 (Below w.heap.size w (w66.setCell ⟨go30, ((ji10) : Int).toNat, none⟩ (.int .i64 t804))) := ⟨uH HB.out⟩
  (try clear HO787); (try clear HL788_0); (try clear HO793); (try clear HO796); (try clear HL800_0); (try clear BK778); (try clear BK779); (try clear BK797); (try clear HB)
  (try rw [setCell_drewN])
  generalize (w66.setCell ⟨go30, ((ji10) : Int).toNat, none⟩ (.int .i64 t804)) = w68 at n0_ n1_ n2_ n3_ n4_ n5_ n6_ n7_ n8_ ⊢
  have HO787 := n0_
  have HL788_0 := n1_
  have HO793 := n2_
  have HO796 := n3_
  have HL800_0 := n4_
  have BK778 := n5_
  have BK779 := n6_
  have BK797 := n7_
  have HB := n8_
  clear n0_ n1_ n2_ n3_ n4_ n5_ n6_ n7_ n8_
  have hcz69_0 := bc BK797 0
  have hcz69_1 := bc BK797 1
  have hcz69_2 := bc BK797 2
  have hfz69_0 := bf BK797 0
  have hfz69_1 := bf BK797 1
  have hfz69_2 := bf BK797 2
  have hcz70_0 := bc BK779 0
  have hcz70_1 := bc BK779 1
  have hcz70_2 := bc BK779 2
  have hfz70_0 := bf BK779 0
  have hfz70_1 := bf BK779 1
  have hfz70_2 := bf BK779 2
  try go_wp2
  refine bodyPost_ret (results_ct rfl _ _ gb779 46 #[.int .i64 t790, .slice (some ⟨go30, 0, none⟩) t791.length co59, .slice Ao60 t794.length co60] (0, 0) _ rfl (by (repeat refine up1 ?_); refine blk_put (cs := #[.int .i64 t790, .slice (some ⟨go30, 0, none⟩) t791.length co59, .slice none 0 0]) ?_ 2 _ rfl; (repeat refine up1 ?_); refine blk_put (cs := #[.int .i64 t790, .slice none 0 0, .slice none 0 0]) ?_ 1 _ rfl; (repeat refine up1 ?_); refine blk_put (cs := #[.int .i64 0, .slice none 0 0, .slice none 0 0]) ?_ 0 _ rfl; (repeat refine up1 ?_); exact BK779.out) Try.underlying46 rfl (by kernel_rfl)) rfl ?_
  exact ⟨_, _, by first | rfl | (simp [errW_none, errW_some] <;> rfl) | (simp only [← hji10, ← hji33]; first | rfl | (simp [errW_none, errW_some] <;> rfl)) | (simp [*, errW_none, errW_some] <;> rfl), uR (rf3 HO793 BK779 (by decide) (.int .i64 t790) (.slice (some ⟨go30, 0, none⟩) t791.length co59) (.slice Ao60 t794.length co60)), uR (rf3 HO796 BK779 (by decide) (.int .i64 t790) (.slice (some ⟨go30, 0, none⟩) t791.length co59) (.slice Ao60 t794.length co60)), uH HB.out⟩
 rw [if_pos c14] at H
 have c14b0 : (t789 == 0) = true := beq_iff_eq.mpr c14
 have c14b1 : (t789 != 0) = false := bne_eq_false_iff_eq.mpr c14
 clear c14
 simp only [Option.some.injEq, Prod.mk.injEq] at H
 obtain ⟨rfl, rfl, rfl, rfl⟩ := H
 go_enter Try.func35, Try.ntmps35
 try go_wp2_with (first | ((with_reducible refine gate_dst (N := 2) rfl ?_); refine bx 2 #[.int .i64 a0_0, .slice A0_1 l0_1.length c0_1, .slice A0_2 l0_2.length c0_2] 46 ?_; intro gb778 hg w15 hbox hb; have BK778 := zA (hbox); have GW778 := gq HB hg; have GE778 := gq HB hg; replace HB := xH HB hb; have := geI GE778; clear hb hbox hg) | ((with_reducible refine gate_dst (N := 4) rfl ?_); refine bx 4 #[.int .i64 0, .slice none 0 0, .slice none 0 0] 46 ?_; intro gb779 hg w16 hbox hb; have BK779 := zA (hbox); have GW779 := gq HB hg; have GE779 := gq HB hg; replace HB := xH HB hb; have NB778_779 := zA ((by rw [hg]; exact neL BK778 : gb778 ≠ gb779)); have NB779_778 := zA ((by rw [hg]; exact neG BK778 : gb779 ≠ gb778)); replace BK778 := xB BK778 hb; have := geI GE779; clear hb hbox hg))
 replace BK778 := zA (blk_drew BK778.out)
 replace BK779 := zA (blk_drew BK779.out)
 replace HB := zA (below_drew1 HB.out)
 refine start_ (n := 7) (S := fun w' => w'.cell? ⟨gb778, 0, none⟩ = some (.int .i64 a0_0) ∧ w'.cell? ⟨gb778, 1, none⟩ = some (.slice A0_1 l0_1.length c0_1) ∧ w'.cell? ⟨gb778, 2, none⟩ = some (.slice A0_2 l0_2.length c0_2)) (ds := []) #[false, false, false, false, false, false, false] (by kernel_rfl) rfl rfl ⟨bcu BK778 0, bcu BK778 1, bcu BK778 2⟩ (fun hHeld => ?_)
 generalize w16.drew = w17 at BK778 BK779 HB hHeld ⊢
 refine pure_ (i := 3) (N := some 15) (v := ?_) (a' := ?_) (bl 7 8) rfl rfl (by kernel_rfl) (fun _ _ _ h => h) (Or.inl ⟨by rfl, ?_⟩) ?_ ?_
 rotate_left
 ·intro w'
  go_simp
  with_reducible rfl
 rotate_left
 ·simp only [Act.put, ls, lz, ln, i64_w, i32_w]
  rfl
 refine take_ (i := 0) (N := some 12) (v := ?_) (a' := ?_) (bl 7 9) rfl rfl (by kernel_rfl) (fun _ _ _ h => h) (Or.inl ⟨by rfl, ?_⟩) hHeld ?_ ?_
 rotate_left
 ·rintro w' ⟨s0, s1, s2⟩
  go_simp
  with_reducible rfl
 rotate_left
 ·simp only [Act.put, ls, lz, ln, i64_w, i32_w]
  rfl
 refine take_ (i := 1) (N := some 13) (v := ?_) (a' := ?_) (bl 7 11) rfl rfl (by kernel_rfl) (fun _ _ _ h => h) (Or.inl ⟨by rfl, ?_⟩) hHeld ?_ ?_
 rotate_left
 ·rintro w' ⟨s0, s1, s2⟩
  go_simp
  with_reducible rfl
 rotate_left
 ·simp only [Act.put, ls, lz, ln, i64_w, i32_w]
  rfl
 refine one_ (i := 2) (N := some 14) (bl 7 15) rfl rfl (by kernel_rfl) (by decide) (fun K hK => ?_)
 refine gS Try.func76 #[.agg #[.int .i64 a0_0, .slice A0_1 l0_1.length c0_1, .slice A0_2 l0_2.length c0_2]] ?_
 with_reducible refine (impl_Jacobi_field.calls a0_0 _ _ l0_1 _ _ l0_2 t780 _ ?side1 ?side2 ?side3 ?side4 A3.out).mono ?_
 (case side1 => exact uC ((Kd.C_below HR0_1.out HB.out)))
 (case side2 => exact HC0_1.out)
 (case side3 => exact uC ((Kd.C_below HR0_2.out HB.out)))
 (case side4 => exact HC0_2.out)
 rintro e w18 ⟨rfl, hb⟩
 refine ⟨_, rfl, ?_⟩
 replace BK778 := xB BK778 hb
 replace BK779 := xB BK779 hb
 replace HB := xH HB hb
 (try clear hb); (try clear hb2); (try clear hk); (try clear hi)
 refine hK.out _ _ ⟨bcu BK778 0, bcu BK778 1, bcu BK778 2⟩ (fun hHeld => ?_)
 clear hK K
 refine no_ 14 ?_
 refine one_ (i := 4) (N := some 16) (bl 7 31) rfl rfl (by kernel_rfl) (by decide) (fun K hK => ?_)
 refine gS Try.func77 #[.int .i64 t780, .int .i64 a1] ?_
 with_reducible refine (impl_field_has.calls t780 a1 t781 _ A4.out).mono ?_
 rintro e w' ⟨rfl, ⟨nd, rfl⟩⟩
 refine ⟨_, rfl, ?_⟩
 refine hK.out _ _ ⟨bcu BK778 0, bcu BK778 1, bcu BK778 2⟩ (fun hHeld => ?_)
 clear hK K
 refine no_ 16 ?_
 refine one_ (i := 5) (N := some 17) (bl 7 63) rfl rfl (by kernel_rfl) (by decide) (fun K hK => ?_)
 refine gS Try.func73 #[.agg #[.int .i64 a0_0, .slice A0_1 l0_1.length c0_1, .slice A0_2 l0_2.length c0_2], .bool t781] ?_
 with_reducible refine (impl_jacobiCode.calls k a0_0 _ _ l0_1 _ _ l0_2 t781 t782 _ ?side1 ?side2 ?side3 ?side4 A5.out).mono ?_
 (case side1 => repeat (first | exact (Kd.C_below HR0_1.out (uH HB.out)) | (with_reducible refine Kd.C_alloc ?_ _) | (with_reducible refine Kd.C_drewN ?_ _) | (with_reducible refine Kd.C_drew ?_)))
 (case side2 => exact HC0_1.out)
 (case side3 => repeat (first | exact (Kd.C_below HR0_2.out (uH HB.out)) | (with_reducible refine Kd.C_alloc ?_ _) | (with_reducible refine Kd.C_drewN ?_ _) | (with_reducible refine Kd.C_drew ?_)))
 (case side4 => exact HC0_2.out)
 rintro e w19 ⟨rfl, hb⟩
 refine ⟨_, rfl, ?_⟩
 replace BK778 := xB BK778 hb
 replace BK779 := xB BK779 hb
 replace HB := xH HB hb
 (try clear hb); (try clear hb2); (try clear hk); (try clear hi)
 refine hK.out _ _ ⟨bcu BK778 0, bcu BK778 1, bcu BK778 2⟩ (fun hHeld => ?_)
 clear hK K
 refine no_ 17 ?_
 refine pure_ (i := 6) (N := some 6) (v := ?_) (a' := ?_) (bl 7 127) rfl rfl (by kernel_rfl) (fun _ _ _ h => h) (Or.inl ⟨by rfl, ?_⟩) ?_ ?_
 rotate_left
 ·intro w'
  go_simp
  with_reducible rfl
 rotate_left
 ·simp only [Act.put, ls, lz, ln, i64_w, i32_w]
  rfl
 refine done_ (by kernel_rfl) ?_
 try go_wp2
 replace BK778 := zA (blk_drew BK778.out)
 replace BK779 := zA (blk_drew BK779.out)
 replace HB := zA (below_drew1 HB.out)
 refine start_ (n := 9) (S := fun w' => w'.cell? ⟨gb778, 0, none⟩ = some (.int .i64 a0_0) ∧ w'.cell? ⟨gb778, 1, none⟩ = some (.slice A0_1 l0_1.length c0_1) ∧ w'.cell? ⟨gb778, 2, none⟩ = some (.slice A0_2 l0_2.length c0_2)) (ds := []) #[false, false, false, false, false, false, false, false, false] (by kernel_rfl) rfl rfl ⟨bcu BK778 0, bcu BK778 1, bcu BK778 2⟩ (fun hHeld => ?_); refine with_tabW impl_RadauJacobi.tab4 impl_RadauJacobi.bits4 (fun HT_ HW_ => ?_)
 generalize w19.drew = w20 at BK778 BK779 HB hHeld ⊢
 refine ta_ 0 22 (bl 9 1) HT_ HW_ hHeld ?_
 refine ta_ 2 24 (bl 9 5) HT_ HW_ hHeld ?_
 refine ta_ 4 26 (bl 9 21) HT_ HW_ hHeld ?_
 refine on_ 1 (some 23) (bl 9 23) HT_ (fun K hK => ?_)
 refine gS Try.func76 #[.agg #[.int .i64 a0_0, .slice A0_1 l0_1.length c0_1, .slice A0_2 l0_2.length c0_2]] ?_
 with_reducible refine (impl_Jacobi_field.calls a0_0 _ _ l0_1 _ _ l0_2 t783 _ ?side1 ?side2 ?side3 ?side4 A7.out).mono ?_
 (case side1 => exact uC ((Kd.C_below HR0_1.out HB.out)))
 (case side2 => exact HC0_1.out)
 (case side3 => exact uC ((Kd.C_below HR0_2.out HB.out)))
 (case side4 => exact HC0_2.out)
 rintro e w21 ⟨rfl, hb⟩
 refine ⟨_, rfl, ?_⟩
 replace BK778 := xB BK778 hb
 replace BK779 := xB BK779 hb
 replace HB := xH HB hb
 (try clear hb); (try clear hb2); (try clear hk); (try clear hi)
 refine hK.out _ _ ⟨bcu BK778 0, bcu BK778 1, bcu BK778 2⟩ (fun hHeld => ?_)
 clear hK K
 refine no_ 23 ?_
 refine on_ 3 (some 25) (bl 9 31) HT_ (fun K hK => ?_)
 refine gS Try.func75 #[.agg #[.int .i64 a0_0, .slice A0_1 l0_1.length c0_1, .slice A0_2 l0_2.length c0_2]] ?_
 with_reducible refine (impl_Jacobi_size.calls a0_0 _ _ l0_1 _ _ l0_2 t784 _ ?side1 ?side2 ?side3 ?side4 A8.out).mono ?_
 (case side1 => exact uC ((Kd.C_below HR0_1.out HB.out)))
 (case side2 => exact HC0_1.out)
 (case side3 => exact uC ((Kd.C_below HR0_2.out HB.out)))
 (case side4 => exact HC0_2.out)
 rintro e w22 ⟨rfl, hb⟩
 refine ⟨_, rfl, ?_⟩
 replace BK778 := xB BK778 hb
 replace BK779 := xB BK779 hb
 replace HB := xH HB hb
 (try clear hb); (try clear hb2); (try clear hk); (try clear hi)
 refine hK.out _ _ ⟨bcu BK778 0, bcu BK778 1, bcu BK778 2⟩ (fun hHeld => ?_)
 clear hK K
 refine no_ 25 ?_
 refine on_ 5 (some 27) (bl 9 63) HT_ (fun K hK => ?_)
 refine gS Try.func79 #[.agg #[.int .i64 a0_0, .slice A0_1 l0_1.length c0_1, .slice A0_2 l0_2.length c0_2]] ?_
 with_reducible refine (impl_Jacobi_polys.calls k a0_0 _ _ l0_1 _ _ l0_2 t785 _ ?side1 ?side2 ?side3 ?side4 A9.out).mono ?_
 (case side1 => exact uC ((Kd.C_below HR0_1.out HB.out)))
 (case side2 => exact HC0_1.out)
 (case side3 => exact uC ((Kd.C_below HR0_2.out HB.out)))
 (case side4 => exact HC0_2.out)
 rintro e w23 ⟨v786, rfl, ho0, hb⟩
 refine ⟨_, rfl, ?_⟩
 have HO787 := zA (Kd.N_lower (Kd.N_mono (ok' := fun k_ => k_ ≠ gb778 ∧ k_ ≠ gb779) ho0 (fun k_ hk_ => ⟨(Kd.freshB (g := gb778) (o := .cells #[.int .i64 a0_0, .slice A0_1 l0_1.length c0_1, .slice A0_2 l0_2.length c0_2] 46 (0, 0)) (uB BK778.out) k_ hk_), (Kd.freshB (g := gb779) (o := .cells #[.int .i64 0, .slice none 0 0, .slice none 0 0] 46 (0, 0)) (uB BK779.out) k_ hk_)⟩)) (below_size (uH HB.out)))
 replace BK778 := xB BK778 hb
 replace BK779 := xB BK779 hb
 replace HB := xH HB hb
 (try clear hb); (try clear hb2); (try clear hk); (try clear hi); (try clear ho0)
 refine hK.out _ _ ⟨bcu BK778 0, bcu BK778 1, bcu BK778 2⟩ (fun hHeld => ?_)
 clear hK K
 refine no_ 27 ?_
 refine pu_ 6 7 (bl 9 127) HT_ ?_
 refine pu_ 7 8 (bl 9 255) HT_ ?_
 refine pu_ 8 9 (bl 9 511) HT_ ?_
 refine done_ (done_of HT_.out (by kernel_rfl)) ?_
 obtain ⟨Ao24, co24, eo24⟩ := Kd.N_slice HO787.out
 subst eo24
 have p788 : 0 ≤ ((ji10) : Int) := of_decide_eq_true (by first | (with_reducible assumption) | assumption)
 have q788 : (ji10) < (t785.length : Int) := of_decide_eq_true (by first | (with_reducible assumption) | assumption)
 obtain ⟨ad788, A788_0, c788_0, e788, hx788_0, hl788_0, hi788_0⟩ := at_L1 (Kd.N_reads' HO787.out).2.2 (ji10) p788 q788
 cases e788
 obtain ⟨ce788, hce788, hMe788, hcc788⟩ := Kd.N_get HO787.out [] (ji10) p788 (by first | exact q788 | exact of_decide_eq_true (by first | (with_reducible assumption) | assumption) | (have e_ := (Kd.N_reads' HO787.out).1; omega))
 obtain ⟨ua788_0, uc788_0, rfl, ul788_0, ge788_0⟩ := Kd.FK_slice_open hMe788
 have hv788_0 := hcc788 0 _ rfl
 rw [Nat.add_zero, show ((Kd.slice 2 (Kd.int .i64))).sz = 1 from rfl, Nat.mul_one] at hv788_0
 replace hv788_0 := Option.some.inj (hv788_0.symm.trans hx788_0)
 injection hv788_0 with hva_ hvn_ hvc_
 rw [hva_] at ge788_0
 rw [hvc_] at ul788_0
 have HL788_0 := zA (show Kd.V (Kd.int .i64) 2 _ w.heap.size _ _ (rd_L1 t785 (ji10)) from Kd.V_mk ul788_0 ge788_0)
 clear hva_ hvn_ hvc_ ge788_0 ul788_0
 clear hcc788 hce788
 have HR788_0 := zA hi788_0
 have HC788_0 := zA hl788_0
 clear hi788_0 hl788_0
 replace p788 := eq_true p788
 replace q788 := eq_true q788
 try go_wp2_with (first | ((with_reducible refine gate_callee (f := 78) rfl ?_); refine goesL_ (some 35) rfl rfl Try.func78 (by kernel_rfl) rfl #[.int .i64 t783, .slice A788_0 (rd_L1 t785 (ji10)).length c788_0, .int .i64 a1] rfl (by (try simp only [la, lb, lc]); first | done | (simp only [hji10]; rfl) | rfl | (simp only [ld, le]; rfl)) ?_; (with_reducible refine (impl_field_value.calls t783 _ _ (rd_L1 t785 (ji10)) a1 t789 _ ?side1 ?side2 A13.out).mono ?_); (case side1 => repeat (first | exact (by repeat (first | (with_reducible exact HR788_0.out) | (with_reducible refine Kd.C_alloc ?_ _) | (with_reducible refine Kd.C_drewN ?_ _) | (with_reducible refine Kd.C_drew ?_) | exact HR788_0.out)) | (with_reducible refine Kd.C_alloc ?_ _) | (with_reducible refine Kd.C_drewN ?_ _) | (with_reducible refine Kd.C_drew ?_))); (case side2 => exact HC788_0.out); rintro e w25 ⟨rfl, hb⟩; refine ⟨_, rfl, ?_⟩; replace HO787 := zA (Kd.N_below (by (with_reducible repeat (first | apply Kd.N_alloc | apply Kd.N_drewN | apply Kd.N_drew)); exact HO787.out) hb); replace HL788_0 := zA (Kd.V_below (by (with_reducible repeat (first | apply Kd.V_alloc | apply Kd.V_drewN | apply Kd.V_drew)); exact HL788_0.out) hb); replace BK778 := xB BK778 hb; replace BK779 := xB BK779 hb; replace HR788_0 := zA (Kd.C_below (by repeat (first | (with_reducible exact HR788_0.out) | (with_reducible refine Kd.C_alloc ?_ _) | (with_reducible refine Kd.C_drewN ?_ _) | (with_reducible refine Kd.C_drew ?_) | exact HR788_0.out)) hb); replace HB := xH HB hb; (try clear hb); (try clear hb2); (try clear hk); (try clear hi); have hnb26 := NB779_778.out; have hnc26 := NB778_779.out; have hcz27_0 := bc BK779 0; have hcz27_1 := bc BK779 1; have hcz27_2 := bc BK779 2; have hfz27_0 := bf BK779 0; have hfz27_1 := bf BK779 1; have hfz27_2 := bf BK779 2))
 refine bodyPost_ret (results_ct rfl _ _ gb779 46 #[.int .i64 0, .slice none 0 0, .slice none 0 0] (0, 0) _ rfl (by (repeat refine up1 ?_); refine blk_put (cs := #[.int .i64 0, .slice none 0 0, .slice none 0 0]) ?_ 2 _ rfl; (repeat refine up1 ?_); refine blk_put (cs := #[.int .i64 0, .slice none 0 0, .slice none 0 0]) ?_ 1 _ rfl; (repeat refine up1 ?_); refine blk_put (cs := #[.int .i64 0, .slice none 0 0, .slice none 0 0]) ?_ 0 _ rfl; (repeat refine up1 ?_); exact BK779.out) Try.underlying46 rfl (by kernel_rfl)) rfl ?_
 exact ⟨_, _, by first | rfl | (simp [errW_none, errW_some] <;> rfl) | (simp only [← hji10]; first | rfl | (simp [errW_none, errW_some] <;> rfl)) | (simp [*, errW_none, errW_some] <;> rfl), by first | exact Kd.R_nil _ _ _ _ _ | exact Kd.N_nil _ _ _ _ _ | exact Kd.V_nil _ _ _ _ _ | exact Kd.Q_nil _ _ _ _ _ | exact Kd.S_nil _ _ _ _ _, by first | exact Kd.R_nil _ _ _ _ _ | exact Kd.N_nil _ _ _ _ _ | exact Kd.V_nil _ _ _ _ _ | exact Kd.Q_nil _ _ _ _ _ | exact Kd.S_nil _ _ _ _ _, uH HB.out⟩
end Go.Proofs.Ytokkabgkjhpecaa.Pr
