/- Printed by a program of this session out of the translation: what these functions of the program compute, under the conditions that each theorem names. -/
import Derived.Test.YtfbnkebgdmfcfaaKOrthogonalPolynomial1
import Derived.Test.YtfbnkebgdmfcfaaKOrthogonalPolynomial2
import Derived.Test.YtfbnkebgdmfcfaaKOrthogonalPolynomial9
namespace Go.Proofs.Ytfbnkebgdmfcfaa.Pr
open Go.RowKit Go.Proofs.YtfbnkebgdmfcfaaW.PrintWords Go.Proofs.YtfbnkebgdmfcfaaW.PrintLast Go.Proofs.YtfbnkebgdmfcfaaW.PrintMore
attribute [local go_sem] max2_int min2_int max_two min_two max_three min_three max_four min_four   -- for this text's walks alone
set_option linter.unusedVariables false
set_option linter.unusedSimpArgs false

/-! ### impl_Moments_upTo: function 88 -/
mutual
def impl_Moments_upTo.j0 : Nat → Int → Bool → Int → List Int → List (List Int) → Int → Option ((List (List Int)) × List Int × Int × List Int × List Int × Bool)
 | 0, _, _, _, _, _, _ => none
 | k + 1, x1, x32, x328000, x328001, x336000, x336002 => if x32 = true then (some (x336000, ([] : List Int), x336002, ([] : List Int), ([] : List Int), false)) else ((impl_Moments_field.f x328000 x328001).bind fun t338 => (impl_Moments_upTo.l0 k t338 ([] : List Int) x1 0 x328000 x328001 x336000 ([] : List Int) x336002 ([] : List Int) ([] : List Int)))
def impl_Moments_upTo.l0 : Nat → Int → List Int → Int → Int → Int → List Int → List (List Int) → List Int → Int → List Int → List Int → Option ((List (List Int)) × List Int × Int × List Int × List Int × Bool)
 | 0, _, _, _, _, _, _, _, _, _, _, _ => none
 | k + 1, x7, x8, x36, x37, x328000, x328001, x336000, x336001, x336002, x336003, x336004 => if x37 < x36 then (if 0 ≤ x37 then (if x37 < (x336000.length : Int) then ((impl_field_product.f k x7 (rd_L1 x336000 x37) (rd_L1 x336000 x37)).bind fun t340 => ((impl_Moments_apply.f k x328000 x328001 t340).bind fun t343 => ((impl_field_product.f k x7 (([0, 1] : List Int)) t340).bind fun t347 => ((impl_Moments_apply.f k x328000 x328001 t347).bind fun t350 => ((impl_field_div.f k x7 t350 t343).bind fun t351 => (if 0 < (x328001.length : Int) then ((if x37 > 0 then (if 0 ≤ (wrap64 (x37 - 1)) then (if (wrap64 (x37 - 1)) < (x336001.length : Int) then ((impl_field_div.f k x7 t343 (rd x336001 (wrap64 (x37 - 1))))) else (none)) else (none)) else (some (rd x328001 0))).bind fun t354 => ((impl_field_next.f k x7 t351 t354 (rd_L1 x336000 x37) x8).bind fun t382 => ((some (([t382] : List (List Int)) : List (List Int))).bind fun y385 => (if x336000.length + y385.length < 5864062014805 then ((some (([t343] : List Int) : List Int)).bind fun y391 => (if x336001.length + y391.length < 17592186044416 then ((some (([t351] : List Int) : List Int)).bind fun y397 => (if x336003.length + y397.length < 17592186044416 then ((some (([t354] : List Int) : List Int)).bind fun y403 => (if x336004.length + y403.length < 17592186044416 then (impl_Moments_upTo.l0 k x7 (rd_L1 x336000 x37) x36 (wrap64 (x37 + 1)) x328000 x328001 (x336000 ++ y385) (x336001 ++ y391) x336002 (x336003 ++ y397) (x336004 ++ y403)) else (none))) else (none))) else (none))) else (none))))) else (none))))))) else (none)) else (none)) else (some (x336000, x336001, x336002, x336003, x336004, true))
end
def impl_Moments_upTo.f (k : Nat) (a0_0 : Int) (l0_1 : List Int) (a1 : Int) : Option ((List (List Int)) × List Int × Int × List Int × List Int × Bool) := (some (([(([1] : List Int))] : List (List Int)) : List (List Int))).bind fun y332 => ((impl_Moments_order.f k a0_0 l0_1).bind fun t336 => (if t336 < a1 then (impl_Moments_upTo.j0 k a1 true a0_0 l0_1 y332 a0_0) else ((impl_length_int64.f l0_1).bind fun t337 => (impl_Moments_upTo.j0 k a1 (decide (t337 < (wrap64 (2 * a1)))) a0_0 l0_1 y332 a0_0))))
def impl_Moments_upTo.T12 : Bool × List (List Nat × List Nat) := (true, [([], []), ([], []), ([], []), ([], []), ([], []), ([2, 3, 4], [2, 3, 4]), ([1, 5, 5], [1, 5]), ([], []), ([0, 6, 7, 6], [0, 6, 7]), ([8, 8, 0, 1, 2, 3, 4, 5, 6, 7, 8], [8])])
def impl_Moments_upTo.B12 : List Nat := [0, 0, 0, 0, 0, 28, 62, 0, 255, 511]
theorem impl_Moments_upTo.tab12 : rtab .any (opsOf Try.f88 12) = impl_Moments_upTo.T12 := by kernel_rfl
theorem impl_Moments_upTo.bits12 : waitsOk impl_Moments_upTo.T12.2 impl_Moments_upTo.B12 = true := by kernel_rfl
def impl_Moments_upTo.T16 : Bool × List (List Nat × List Nat) := (true, [([], []), ([0], [0]), ([], []), ([], []), ([], []), ([], []), ([], []), ([2, 3, 4, 5, 6], [2, 3, 4, 5, 6]), ([7], [7]), ([1, 8, 7], [1, 8]), ([0, 1, 2, 3, 4, 5, 6, 7, 8, 9], []), ([10, 9, 9, 0, 1, 2, 3, 4, 5, 6, 7, 8, 9], [9, 10])])
def impl_Moments_upTo.B16 : List Nat := [0, 1, 0, 0, 0, 0, 0, 124, 252, 511, 1023, 2047]
theorem impl_Moments_upTo.tab16 : rtab .any (opsOf Try.f88 16) = impl_Moments_upTo.T16 := by kernel_rfl
theorem impl_Moments_upTo.bits16 : waitsOk impl_Moments_upTo.T16.2 impl_Moments_upTo.B16 = true := by kernel_rfl
def impl_Moments_upTo.T18 : Bool × List (List Nat × List Nat) := (true, [([], []), ([0], [0]), ([1], [1]), ([], []), ([3], [3]), ([2, 4], [2, 4]), ([], []), ([6], [6]), ([7], [7]), ([], []), ([9], [9]), ([8, 10, 5], [8, 10]), ([0, 1, 2, 3, 4, 5, 6, 7, 8], []), ([12, 0, 1, 2, 3, 4, 5, 6, 7, 8], [12]), ([13, 5, 11, 0, 1, 2, 3, 4, 5, 6, 7, 8], [5, 13]), ([0, 1, 2, 3, 4, 5, 6, 7, 8, 9, 10, 11, 12, 13, 14], []), ([15, 0, 1, 2, 3, 4, 5, 6, 7, 8, 9, 10, 11, 12, 13, 14], [15]), ([16, 11, 14, 0, 1, 2, 3, 4, 5, 6, 7, 8, 9, 10, 11, 12, 13, 14], [11, 16])])
def impl_Moments_upTo.B18 : List Nat := [0, 1, 3, 0, 8, 31, 0, 64, 192, 0, 512, 2047, 511, 4607, 16383, 32767, 65535, 131071]
theorem impl_Moments_upTo.tab18 : rtab .any (opsOf Try.f88 18) = impl_Moments_upTo.T18 := by kernel_rfl
theorem impl_Moments_upTo.bits18 : waitsOk impl_Moments_upTo.T18.2 impl_Moments_upTo.B18 = true := by kernel_rfl
set_option maxHeartbeats 8000000 in
set_option maxRecDepth 100000 in
theorem impl_Moments_upTo.callsR (k : Nat) (a0_0 : Int) (A0_1 : Option Addr) (c0_1 : Nat) (l0_1 : List Int) (a1 : Int) (r1 : List (List Int)) (r2 : List Int) (r3 : Int) (r4 : List Int) (r5 : List Int) (r6 : Bool) (w : World) (hr0_1 : Kd.C (Kd.int .i64) w A0_1 l0_1.length l0_1) (hc0_1 : l0_1.length ≤ c0_1) (h : impl_Moments_upTo.f k a0_0 l0_1 a1 = some (r1, r2, r3, r4, r5, r6)) :
  Calls Try.prog 88 #[.agg #[.int .i64 a0_0, .slice A0_1 l0_1.length c0_1], .int .i64 a1] w fun e w' => ∃ v0_ v1_ v3_ v4_ : Value, e = .returned (.tuple #[.agg #[v0_, v1_, .int .i64 r3, v3_, v4_], .bool r6]) ∧ Kd.R (Kd.slice 2 (Kd.int .i64)) 22 w' w.heap.size (fun k_ => (w.heap.size ≤ k_) ∧ some k_ ≠ (v1_ : Value).ownBlock ∧ some k_ ≠ (v3_ : Value).ownBlock ∧ some k_ ≠ (v4_ : Value).ownBlock) v0_ r1 ∧ Kd.R (Kd.int .i64) 2 w' w.heap.size (fun k_ => (w.heap.size ≤ k_) ∧ some k_ ≠ (v3_ : Value).ownBlock ∧ some k_ ≠ (v4_ : Value).ownBlock) v1_ r2 ∧ Kd.R (Kd.int .i64) 2 w' w.heap.size (fun k_ => (w.heap.size ≤ k_) ∧ some k_ ≠ (v1_ : Value).ownBlock ∧ some k_ ≠ (v4_ : Value).ownBlock) v3_ r4 ∧ Kd.R (Kd.int .i64) 2 w' w.heap.size (fun k_ => (w.heap.size ≤ k_) ∧ some k_ ≠ (v1_ : Value).ownBlock ∧ some k_ ≠ (v3_ : Value).ownBlock) v4_ r5 ∧ Below w.heap.size w w' := by
 have hu40 := Try.underlying40
 have hu95 := Try.underlying95
 have hu26 := Try.underlying26
 have HR0_1 := zA hr0_1
 have HC0_1 := zA hc0_1
 clear hr0_1 hc0_1
 have HB := zA (Below.refl w.heap.size w)
 have H : ((some (([(([1] : List Int))] : List (List Int)) : List (List Int))).bind fun y332 => ((impl_Moments_order.f k a0_0 l0_1).bind fun t336 => (if t336 < a1 then (impl_Moments_upTo.j0 k a1 true a0_0 l0_1 y332 a0_0) else ((impl_length_int64.f l0_1).bind fun t337 => (impl_Moments_upTo.j0 k a1 (decide (t337 < (wrap64 (2 * a1)))) a0_0 l0_1 y332 a0_0))))) = some (r1, r2, r3, r4, r5, r6) := h
 clear h
 obtain ⟨y329, hy329⟩ : ∃ y_ : List Int, y_ = (([1] : List Int)) := ⟨_, rfl⟩
 replace H : ((some (([y329] : List (List Int)) : List (List Int))).bind fun y332 => ((impl_Moments_order.f k a0_0 l0_1).bind fun t336 => (if t336 < a1 then (impl_Moments_upTo.j0 k a1 true a0_0 l0_1 y332 a0_0) else ((impl_length_int64.f l0_1).bind fun t337 => (impl_Moments_upTo.j0 k a1 (decide (t337 < (wrap64 (2 * a1)))) a0_0 l0_1 y332 a0_0))))) = some (r1, r2, r3, r4, r5, r6) := by first | (rw [hy329]; exact H) | exact H
 have Ny329 := zA hy329
 clear hy329
 obtain ⟨y332, hy332⟩ : ∃ y_ : List (List Int), y_ = (([y329] : List (List Int))) := ⟨_, rfl⟩
 replace H : ((impl_Moments_order.f k a0_0 l0_1).bind fun t336 => (if t336 < a1 then (impl_Moments_upTo.j0 k a1 true a0_0 l0_1 y332 a0_0) else ((impl_length_int64.f l0_1).bind fun t337 => (impl_Moments_upTo.j0 k a1 (decide (t337 < (wrap64 (2 * a1)))) a0_0 l0_1 y332 a0_0)))) = some (r1, r2, r3, r4, r5, r6) := by first | (rw [hy332]; exact H) | exact H
 have Ny332 := zA hy332
 clear hy332
 have HC3 := zA H
 clear H
 go_enter Try.func88, Try.ntmps88
 go_upto_region 2 with (first | ((with_reducible refine gate_dst (N := 2) rfl ?_); refine bx 2 #[.int .i64 a0_0, .slice A0_1 l0_1.length c0_1] 40 ?_; intro gb327 hg w4 hbox hb; have BK327 := zA (hbox); have GW327 := gq HB hg; have GE327 := gq HB hg; replace HB := xH HB hb; have := geI GE327; clear hb hbox hg) | ((with_reducible refine gate_dst (N := 4) rfl ?_); refine bx 4 #[.slice none 0 0, .slice none 0 0, .int .i64 0, .slice none 0 0, .slice none 0 0] 95 ?_; intro gb328 hg w5 hbox hb; have BK328 := zA (hbox); have GW328 := gq HB hg; have GE328 := gq HB hg; replace HB := xH HB hb; have NB327_328 := zA ((by rw [hg]; exact neL BK327 : gb327 ≠ gb328)); have NB328_327 := zA ((by rw [hg]; exact neG BK327 : gb328 ≠ gb327)); replace BK327 := xB BK327 hb; have := geI GE328; clear hb hbox hg) | ((with_reducible refine gate_dst (N := 15) rfl ?_); refine Kd.R_lit (Kd.int .i64) _ 2 ?hg (N := 15) ?hd (xs := ([1] : List Int)) (inner := [.int .i64 1]) (ok := fun _ => True) (okp := fun _ => True) ?hr ?hp (fun _ hk => hk) trivial (Below.refl _ _) (Nat.le_refl _) (by simp) ?_; (case hd => rfl); (case hg => rfl); (case hr => first | (go_simp; done) | (go_simp; rfl)); (case hp => exact (Reps.one (show Kd.M (Kd.int .i64) _ _ _ 1 [.int .i64 1] from rfl) (Reps.none _ _))); intro v330 w6 ho7 hb hg_ hnew_; clear hg_ hnew_; (first | rw [← Ny329.out] at ho7 | (simp only [Int.reduceToNat] at ho7; rw [← Ny329.out] at ho7)); have HO331 := zA (Kd.R_lower (Kd.R_newM (M := fun k_ => (w.heap.size ≤ k_)) ho7 (below_size (uH HB.out)) (fun k_ h_ => h_)) (below_size (uH HB.out))); replace BK327 := xB BK327 hb; replace BK328 := xB BK328 hb; replace HB := xH HB hb; clear hb ho7; obtain ⟨Ao8, co8, eo8⟩ := Kd.R_slice HO331.out; subst eo8) | ((with_reducible refine gate_dst (N := 16) rfl ?_); refine Kd.R_lit (Kd.slice 2 (Kd.int .i64)) w.heap.size 22 ?hg (N := 16) ?hd (xs := ([y329] : List (List Int))) (inner := [.slice Ao8 y329.length co8]) (ok := (fun k_ => (w.heap.size ≤ k_) ∧ k_ ≠ gb327 ∧ k_ ≠ gb328)) (okp := (fun k_ => (w.heap.size ≤ k_) ∧ k_ ≠ gb327 ∧ k_ ≠ gb328)) ?hr ?hp (fun _ hk => hk) ((show ∀ k_, w6.heap.size ≤ k_ → (fun k_ => (w.heap.size ≤ k_) ∧ k_ ≠ gb327 ∧ k_ ≠ gb328) k_ from fun k_ hk => ⟨(Nat.le_trans (below_size (uH HB.out)) hk), Kd.freshB (g := gb327) (o := .cells #[.int .i64 a0_0, .slice A0_1 l0_1.length c0_1] 40 (0, 0)) (uB BK327.out) k_ hk, Kd.freshB (g := gb328) (o := .cells #[.slice none 0 0, .slice none 0 0, .int .i64 0, .slice none 0 0, .slice none 0 0] 95 (0, 0)) (uB BK328.out) k_ hk⟩) _ (Nat.le_refl _)) (Below.refl _ _) (below_size (uH HB.out)) (by simp) ?_; (case hd => rfl); (case hg => rfl); (case hr => first | (go_simp; done) | (go_simp; rfl)); (case hp => exact (Reps.one (show Kd.M (Kd.slice 2 (Kd.int .i64)) _ _ _ y329 [.slice Ao8 y329.length co8] from ⟨_, rfl, (Kd.R_mono (ok' := (fun k_ => (w.heap.size ≤ k_) ∧ k_ ≠ gb327 ∧ k_ ≠ gb328)) (Kd.R_types (Kd.R_types (HO331.out) BK327.out (by decide)) BK328.out (by decide)) (fun k_ hk => ⟨hk.1.1.1, ⟨hk.1.2, hk.2⟩⟩))⟩) (Reps.none _ _))); intro v333 w9 ho10 hb hg_ hnew_; replace hb := (Below.refl _ _).grown hg_ (Nat.le_refl _) (fun k e => by simp at e); clear hg_ hnew_; (first | rw [← Ny332.out] at ho10 | (simp only [Int.reduceToNat] at ho10; rw [← Ny332.out] at ho10)); have HO334 := zA (ho10); replace BK327 := xB BK327 hb; replace BK328 := xB BK328 hb; replace HB := xH HB hb; clear HO331 hb ho10; have hnb11 := NB327_328.out; have hnc11 := NB328_327.out; have hcz12_0 := bc BK327 0; have hcz12_1 := bc BK327 1; have hfz12_0 := bf BK327 0; have hfz12_1 := bf BK327 1; obtain ⟨Ao13, co13, eo13⟩ := Kd.R_slice HO334.out; subst eo13) | ((with_reducible refine gate_dst (N := 6) rfl ?_); refine bx 6 #[.slice none 0 0, .slice none 0 0, .int .i64 0, .slice none 0 0, .slice none 0 0] 95 ?_; intro gb335 hg w14 hbox hb; replace HO334 := zA (Kd.R_below (Kd.R_elderB (uR HO334.out) gb335 (Nat.le_of_eq hg.symm)) hb); have BK335 := zA (hbox); have GW335 := gq HB hg; have GE335 := gq HB hg; replace HB := xH HB hb; have NB327_335 := zA ((by rw [hg]; exact neL BK327 : gb327 ≠ gb335)); have NB335_327 := zA ((by rw [hg]; exact neG BK327 : gb335 ≠ gb327)); replace BK327 := xB BK327 hb; have NB328_335 := zA ((by rw [hg]; exact neL BK328 : gb328 ≠ gb335)); have NB335_328 := zA ((by rw [hg]; exact neG BK328 : gb335 ≠ gb328)); replace BK328 := xB BK328 hb; have := geI GE335; clear hb hbox hg; have hnb15 := NB335_327.out; have hnc15 := NB327_335.out; have hnb16 := NB335_328.out; have hnc16 := NB328_335.out; have hcz17_0 := bc BK335 0; have hcz17_1 := bc BK335 1; have hcz17_2 := bc BK335 2; have hcz17_3 := bc BK335 3; have hcz17_4 := bc BK335 4; have hfz17_0 := bf BK335 0; have hfz17_1 := bf BK335 1; have hfz17_2 := bf BK335 2; have hfz17_3 := bf BK335 3; have hfz17_4 := bf BK335 4))
 (try simp only [Act.put, ls, lz, ln])
 go_cut [32] (fun v32 wc => ∃ (kq : Nat) (x32_2 : Bool), v32 = .bool x32_2 ∧ Aside0 (impl_Moments_upTo.j0 kq a1 x32_2 a0_0 l0_1 y332 a0_0 = some (r1, r2, r3, r4, r5, r6)) ∧ Aside0 (kq ≤ k) ∧ Aside0 (Kd.R (Kd.slice 2 (Kd.int .i64)) 22 wc w.heap.size (fun k_ => (w.heap.size ≤ k_) ∧ k_ ≠ gb327 ∧ k_ ≠ gb328 ∧ k_ ≠ gb335) (.slice Ao13 y332.length co13) y332) ∧ Aside0 (wc.heap[gb327]? = some (.cells #[.int .i64 a0_0, (.slice A0_1 l0_1.length c0_1)] 40 (0, 0))) ∧ Aside0 (wc.heap[gb328]? = some (.cells #[(.slice none 0 0), (.slice none 0 0), .int .i64 0, (.slice none 0 0), (.slice none 0 0)] 95 (0, 0))) ∧ Aside0 (wc.heap[gb335]? = some (.cells #[(.slice Ao13 y332.length co13), (.slice none 0 0), .int .i64 a0_0, (.slice none 0 0), (.slice none 0 0)] 95 (0, 0))) ∧ Aside0 (Below w.heap.size w wc))
 case first =>
  have H := HC3.out
  clear HC3
  replace H := Option.bind_eq_some_iff.mp H
  obtain ⟨t336, A180, H⟩ := H
  replace H : (if t336 < a1 then (impl_Moments_upTo.j0 k a1 true a0_0 l0_1 y332 a0_0) else ((impl_length_int64.f l0_1).bind fun t337 => (impl_Moments_upTo.j0 k a1 (decide (t337 < (wrap64 (2 * a1)))) a0_0 l0_1 y332 a0_0))) = some (r1, r2, r3, r4, r5, r6) := H
  have A18 := zA A180
  clear A180
  by_cases c19 : t336 < a1
  rotate_left
  ·rw [if_neg c19] at H
   have c19b0 : decide (t336 < a1) = false := decide_eq_false c19
   clear c19
   (first | rw [c19b0] | (simp only [i64_w, i32_w]; rw [c19b0]) | skip)
   replace H := Option.bind_eq_some_iff.mp H
   obtain ⟨t337, A240, H⟩ := H
   replace H : (impl_Moments_upTo.j0 k a1 (decide (t337 < (wrap64 (2 * a1)))) a0_0 l0_1 y332 a0_0) = some (r1, r2, r3, r4, r5, r6) := H
   have A24 := zA A240
   clear A240
   have H' := zA H
   clear H
   have hnb25 := NB327_328.out; have hnc25 := NB328_327.out; have hnb26 := NB327_335.out; have hnc26 := NB335_327.out
   have hcz27_0 := bc BK327 0
   have hcz27_1 := bc BK327 1
   have hfz27_0 := bf BK327 0
   have hfz27_1 := bf BK327 1
   go_wp2_with (first | ((with_reducible refine gate_callee (f := 93) rfl ?_); refine gL (some 22) Try.func93 #[.agg #[.int .i64 a0_0, .slice A0_1 l0_1.length c0_1]] ?_; (with_reducible refine (impl_Moments_order.calls k a0_0 _ _ l0_1 t336 _ ?side1 ?side2 A18.out).mono ?_); (case side1 => exact Kd.C_below HR0_1.out (uH HB.out)); (case side2 => exact HC0_1.out); rintro e w28 ⟨rfl, hb⟩; refine ⟨_, rfl, ?_⟩; replace HO334 := zA (Kd.R_below (uR ((Kd.R_mono (Kd.R_far (p := ⟨gb335, 4, none⟩) (Kd.R_far (p := ⟨gb335, 3, none⟩) (Kd.R_far (p := ⟨gb335, 2, none⟩) (Kd.R_far (p := ⟨gb335, 1, none⟩) (Kd.R_far (p := ⟨gb335, 0, none⟩) (Kd.R_mono HO334.out (fun k_ hk => (⟨hk, hk.2⟩ : _ ∧ k_ ≠ gb335))) (fun _ hk => hk.2) (.slice Ao13 y332.length co13)) (fun _ hk => hk.2) (.slice none 0 0)) (fun _ hk => hk.2) (.int .i64 a0_0)) (fun _ hk => hk.2) (.slice none 0 0)) (fun _ hk => hk.2) (.slice none 0 0)) (fun _ h_ => h_.1)))) hb); replace BK327 := zA (blk_below (g := gb327) (o := .cells #[.int .i64 a0_0, .slice A0_1 l0_1.length c0_1] 40 (0, 0)) (by (repeat refine up1 ?_); refine blk_far ?_ NB327_335.out _; (repeat refine up1 ?_); refine blk_far ?_ NB327_335.out _; (repeat refine up1 ?_); refine blk_far ?_ NB327_335.out _; (repeat refine up1 ?_); refine blk_far ?_ NB327_335.out _; (repeat refine up1 ?_); refine blk_far ?_ NB327_335.out _; (repeat refine up1 ?_); exact BK327.out) hb); replace BK328 := zA (blk_below (g := gb328) (o := .cells #[.slice none 0 0, .slice none 0 0, .int .i64 0, .slice none 0 0, .slice none 0 0] 95 (0, 0)) (by (repeat refine up1 ?_); refine blk_far ?_ NB328_335.out _; (repeat refine up1 ?_); refine blk_far ?_ NB328_335.out _; (repeat refine up1 ?_); refine blk_far ?_ NB328_335.out _; (repeat refine up1 ?_); refine blk_far ?_ NB328_335.out _; (repeat refine up1 ?_); refine blk_far ?_ NB328_335.out _; (repeat refine up1 ?_); exact BK328.out) hb); replace BK335 := zA (blk_below (g := gb335) (o := .cells #[.slice Ao13 y332.length co13, .slice none 0 0, .int .i64 a0_0, .slice none 0 0, .slice none 0 0] 95 (0, 0)) (by (repeat refine up1 ?_); refine blk_put (cs := #[.slice Ao13 y332.length co13, .slice none 0 0, .int .i64 a0_0, .slice none 0 0, .slice none 0 0]) ?_ 4 _ rfl; (repeat refine up1 ?_); refine blk_put (cs := #[.slice Ao13 y332.length co13, .slice none 0 0, .int .i64 a0_0, .slice none 0 0, .slice none 0 0]) ?_ 3 _ rfl; (repeat refine up1 ?_); refine blk_put (cs := #[.slice Ao13 y332.length co13, .slice none 0 0, .int .i64 0, .slice none 0 0, .slice none 0 0]) ?_ 2 _ rfl; (repeat refine up1 ?_); refine blk_put (cs := #[.slice Ao13 y332.length co13, .slice none 0 0, .int .i64 0, .slice none 0 0, .slice none 0 0]) ?_ 1 _ rfl; (repeat refine up1 ?_); refine blk_put (cs := #[.slice none 0 0, .slice none 0 0, .int .i64 0, .slice none 0 0, .slice none 0 0]) ?_ 0 _ rfl; (repeat refine up1 ?_); exact BK335.out) hb); replace HB := xH HB hb; (try clear hb); (try clear hb2); (try clear hk); (try clear hi); have hcz29_0 := bc BK327 0; have hcz29_1 := bc BK327 1; have hfz29_0 := bf BK327 0; have hfz29_1 := bf BK327 1) | (go_at_call 71; (with_reducible refine (impl_length_int64.calls _ _ l0_1 t337 _ ?side1 ?side2 A24.out).mono ?_); (case side1 => exact uC ((Kd.C_below HR0_1.out HB.out))); (case side2 => exact HC0_1.out); rintro e w' ⟨rfl, ⟨nd, rfl⟩⟩))
   go_meet
   case rel => exact ⟨_, (decide (t337 < (wrap64 (2 * a1)))), (by first | rfl | (simp; done) | (simp [*]; done)), H', ⟨by first | omega | exact Nat.le_refl _⟩, ⟨by (with_reducible repeat (first | apply Kd.R_alloc | apply Kd.R_drewN | apply Kd.R_drew)); exact Kd.R_mono HO334.out (fun _ hk => ⟨hk.1.1, ⟨hk.1.2.1, ⟨hk.1.2.2, hk.2⟩⟩⟩)⟩, ⟨uB BK327.out⟩, ⟨uB BK328.out⟩, ⟨uB BK335.out⟩, ⟨uH HB.out⟩⟩
  rw [if_pos c19] at H
  have c19b0 : decide (t336 < a1) = true := decide_eq_true c19
  clear c19
  (first | rw [c19b0] | (simp only [i64_w, i32_w]; rw [c19b0]) | skip)
  have H' := zA H
  clear H
  have hnb20 := NB327_328.out; have hnc20 := NB328_327.out; have hnb21 := NB327_335.out; have hnc21 := NB335_327.out
  have hcz22_0 := bc BK327 0
  have hcz22_1 := bc BK327 1
  have hfz22_0 := bf BK327 0
  have hfz22_1 := bf BK327 1
  go_wp2_with (first | ((with_reducible refine gate_callee (f := 93) rfl ?_); refine gL (some 22) Try.func93 #[.agg #[.int .i64 a0_0, .slice A0_1 l0_1.length c0_1]] ?_; (with_reducible refine (impl_Moments_order.calls k a0_0 _ _ l0_1 t336 _ ?side1 ?side2 A18.out).mono ?_); (case side1 => exact Kd.C_below HR0_1.out (uH HB.out)); (case side2 => exact HC0_1.out); rintro e w23 ⟨rfl, hb⟩; refine ⟨_, rfl, ?_⟩; replace HO334 := zA (Kd.R_below (uR ((Kd.R_mono (Kd.R_far (p := ⟨gb335, 4, none⟩) (Kd.R_far (p := ⟨gb335, 3, none⟩) (Kd.R_far (p := ⟨gb335, 2, none⟩) (Kd.R_far (p := ⟨gb335, 1, none⟩) (Kd.R_far (p := ⟨gb335, 0, none⟩) (Kd.R_mono HO334.out (fun k_ hk => (⟨hk, hk.2⟩ : _ ∧ k_ ≠ gb335))) (fun _ hk => hk.2) (.slice Ao13 y332.length co13)) (fun _ hk => hk.2) (.slice none 0 0)) (fun _ hk => hk.2) (.int .i64 a0_0)) (fun _ hk => hk.2) (.slice none 0 0)) (fun _ hk => hk.2) (.slice none 0 0)) (fun _ h_ => h_.1)))) hb); replace BK327 := zA (blk_below (g := gb327) (o := .cells #[.int .i64 a0_0, .slice A0_1 l0_1.length c0_1] 40 (0, 0)) (by (repeat refine up1 ?_); refine blk_far ?_ NB327_335.out _; (repeat refine up1 ?_); refine blk_far ?_ NB327_335.out _; (repeat refine up1 ?_); refine blk_far ?_ NB327_335.out _; (repeat refine up1 ?_); refine blk_far ?_ NB327_335.out _; (repeat refine up1 ?_); refine blk_far ?_ NB327_335.out _; (repeat refine up1 ?_); exact BK327.out) hb); replace BK328 := zA (blk_below (g := gb328) (o := .cells #[.slice none 0 0, .slice none 0 0, .int .i64 0, .slice none 0 0, .slice none 0 0] 95 (0, 0)) (by (repeat refine up1 ?_); refine blk_far ?_ NB328_335.out _; (repeat refine up1 ?_); refine blk_far ?_ NB328_335.out _; (repeat refine up1 ?_); refine blk_far ?_ NB328_335.out _; (repeat refine up1 ?_); refine blk_far ?_ NB328_335.out _; (repeat refine up1 ?_); refine blk_far ?_ NB328_335.out _; (repeat refine up1 ?_); exact BK328.out) hb); replace BK335 := zA (blk_below (g := gb335) (o := .cells #[.slice Ao13 y332.length co13, .slice none 0 0, .int .i64 a0_0, .slice none 0 0, .slice none 0 0] 95 (0, 0)) (by (repeat refine up1 ?_); refine blk_put (cs := #[.slice Ao13 y332.length co13, .slice none 0 0, .int .i64 a0_0, .slice none 0 0, .slice none 0 0]) ?_ 4 _ rfl; (repeat refine up1 ?_); refine blk_put (cs := #[.slice Ao13 y332.length co13, .slice none 0 0, .int .i64 a0_0, .slice none 0 0, .slice none 0 0]) ?_ 3 _ rfl; (repeat refine up1 ?_); refine blk_put (cs := #[.slice Ao13 y332.length co13, .slice none 0 0, .int .i64 0, .slice none 0 0, .slice none 0 0]) ?_ 2 _ rfl; (repeat refine up1 ?_); refine blk_put (cs := #[.slice Ao13 y332.length co13, .slice none 0 0, .int .i64 0, .slice none 0 0, .slice none 0 0]) ?_ 1 _ rfl; (repeat refine up1 ?_); refine blk_put (cs := #[.slice none 0 0, .slice none 0 0, .int .i64 0, .slice none 0 0, .slice none 0 0]) ?_ 0 _ rfl; (repeat refine up1 ?_); exact BK335.out) hb); replace HB := xH HB hb; (try clear hb); (try clear hb2); (try clear hk); (try clear hi)))
  go_meet
  case rel => exact ⟨_, (true), (by first | rfl | (simp; done) | (simp [*]; done)), H', ⟨by first | omega | exact Nat.le_refl _⟩, ⟨by (with_reducible repeat (first | apply Kd.R_alloc | apply Kd.R_drewN | apply Kd.R_drew)); exact Kd.R_mono HO334.out (fun _ hk => ⟨hk.1.1, ⟨hk.1.2.1, ⟨hk.1.2.2, hk.2⟩⟩⟩)⟩, ⟨uB BK327.out⟩, ⟨uB BK328.out⟩, ⟨uB BK335.out⟩, ⟨uH HB.out⟩⟩
 case rest =>
  clear HC3
  (try clear c1);(try clear c2);(try clear p2);(try clear p6);(try clear c8);(try clear c9);(try clear c11);(try clear c15);(try clear c16);(try clear c19);(try clear c19b0);(try clear c20);(try clear c21);(try clear c25);(try clear c26);(try clear hcz12_0);(try clear hcz12_1);(try clear hcz17_0);(try clear hcz17_1);(try clear hcz17_2);(try clear hcz17_3);(try clear hcz17_4);(try clear hcz22_0);(try clear hcz22_1)
  (try clear hcz27_0);(try clear hcz27_1);(try clear hcz29_0);(try clear hcz29_1);(try clear hfz12_0);(try clear hfz12_1);(try clear hfz17_0);(try clear hfz17_1);(try clear hfz17_2);(try clear hfz17_3);(try clear hfz17_4);(try clear hfz22_0);(try clear hfz22_1);(try clear hfz27_0);(try clear hfz27_1);(try clear hfz29_0);(try clear hfz29_1)
  obtain ⟨kq, x32_2, rfl, HA, HJ2, HO_336000, BK327, BK328, BK335, HB⟩ := hcut
  cases kq with
  | zero => exact absurd HA.out (by simp [impl_Moments_upTo.j0])
  | succ kj2 =>
   have H := HA.out
   clear HA
   simp only [impl_Moments_upTo.j0] at H
   by_cases c30 : x32_2 = true
   ·subst c30
    have H1 : (some (y332, ([] : List Int), a0_0, ([] : List Int), ([] : List Int), false)) = some (r1, r2, r3, r4, r5, r6) := by rw [if_pos rfl] at H; exact H
    clear H
    have H := H1
    clear H1
    simp only [Option.some.injEq, Prod.mk.injEq] at H
    obtain ⟨rfl, rfl, rfl, rfl, rfl, rfl⟩ := H
    have hnb31 := NB335_327.out; have hnc31 := NB327_335.out; have hnb32 := NB335_328.out; have hnc32 := NB328_335.out
    have hcz33_0 := bc BK335 0
    have hcz33_1 := bc BK335 1
    have hcz33_2 := bc BK335 2
    have hcz33_3 := bc BK335 3
    have hcz33_4 := bc BK335 4
    have hfz33_0 := bf BK335 0
    have hfz33_1 := bf BK335 1
    have hfz33_2 := bf BK335 2
    have hfz33_3 := bf BK335 3
    have hfz33_4 := bf BK335 4
    have hnb34 := NB328_327.out; have hnc34 := NB327_328.out
    have hcz35_0 := bc BK328 0
    have hcz35_1 := bc BK328 1
    have hcz35_2 := bc BK328 2
    have hcz35_3 := bc BK328 3
    have hcz35_4 := bc BK328 4
    have hfz35_0 := bf BK328 0
    have hfz35_1 := bf BK328 1
    have hfz35_2 := bf BK328 2
    have hfz35_3 := bf BK328 3
    have hfz35_4 := bf BK328 4
    go_wp2
    refine bodyPost_ret (results_ct rfl _ _ gb328 95 #[.slice Ao13 y332.length co13, .slice none 0 0, .int .i64 a0_0, .slice none 0 0, .slice none 0 0] (0, 0) _ rfl (by (repeat refine up1 ?_); refine blk_put (cs := #[.slice Ao13 y332.length co13, .slice none 0 0, .int .i64 a0_0, .slice none 0 0, .slice none 0 0]) ?_ 4 _ rfl; (repeat refine up1 ?_); refine blk_put (cs := #[.slice Ao13 y332.length co13, .slice none 0 0, .int .i64 a0_0, .slice none 0 0, .slice none 0 0]) ?_ 3 _ rfl; (repeat refine up1 ?_); refine blk_put (cs := #[.slice Ao13 y332.length co13, .slice none 0 0, .int .i64 0, .slice none 0 0, .slice none 0 0]) ?_ 2 _ rfl; (repeat refine up1 ?_); refine blk_put (cs := #[.slice Ao13 y332.length co13, .slice none 0 0, .int .i64 0, .slice none 0 0, .slice none 0 0]) ?_ 1 _ rfl; (repeat refine up1 ?_); refine blk_put (cs := #[.slice none 0 0, .slice none 0 0, .int .i64 0, .slice none 0 0, .slice none 0 0]) ?_ 0 _ rfl; (repeat refine up1 ?_); exact BK328.out) Try.underlying95 rfl (by kernel_rfl)) rfl ?_
    exact ⟨_, _, _, _, by first | rfl | (simp [errW_none, errW_some] <;> rfl) | (simp [*, errW_none, errW_some] <;> rfl), by (with_reducible repeat (first | apply Kd.R_alloc | apply Kd.R_drewN | apply Kd.R_drew)); exact Kd.R_mono (Kd.R_far (p := ⟨gb328, 4, none⟩) (Kd.R_far (p := ⟨gb328, 3, none⟩) (Kd.R_far (p := ⟨gb328, 2, none⟩) (Kd.R_far (p := ⟨gb328, 1, none⟩) (Kd.R_far (p := ⟨gb328, 0, none⟩) (Kd.R_mono HO_336000.out (fun k_ hk => (⟨hk, hk.2.2.1⟩ : _ ∧ k_ ≠ gb328))) (fun _ hk => hk.2) (.slice Ao13 y332.length co13)) (fun _ hk => hk.2) (.slice none 0 0)) (fun _ hk => hk.2) (.int .i64 a0_0)) (fun _ hk => hk.2) (.slice none 0 0)) (fun _ hk => hk.2) (.slice none 0 0)) (fun _ hk => ⟨hk.1.1, ⟨(by simp [Value.ownBlock]), ⟨(by simp [Value.ownBlock]), (by simp [Value.ownBlock])⟩⟩⟩), by first | exact Kd.R_nil _ _ _ _ _ | exact Kd.R_nil _ _ _ _ _ | exact Kd.V_nil _ _ _ _ _ | exact Kd.Q_nil _ _ _ _ _ | exact Kd.S_nil _ _ _ _ _, by first | exact Kd.R_nil _ _ _ _ _ | exact Kd.R_nil _ _ _ _ _ | exact Kd.V_nil _ _ _ _ _ | exact Kd.Q_nil _ _ _ _ _ | exact Kd.S_nil _ _ _ _ _, by first | exact Kd.R_nil _ _ _ _ _ | exact Kd.R_nil _ _ _ _ _ | exact Kd.V_nil _ _ _ _ _ | exact Kd.Q_nil _ _ _ _ _ | exact Kd.S_nil _ _ _ _ _, uH HB.out⟩
   ·replace c30 := Bool.eq_false_iff.mpr c30
    subst c30
    have H1 : ((impl_Moments_field.f a0_0 l0_1).bind fun t338 => (impl_Moments_upTo.l0 kj2 t338 ([] : List Int) a1 0 a0_0 l0_1 y332 ([] : List Int) a0_0 ([] : List Int) ([] : List Int))) = some (r1, r2, r3, r4, r5, r6) := by rw [if_neg (show ¬ (false = true) by decide)] at H; exact H
    clear H
    have H := H1
    clear H1
    replace H := Option.bind_eq_some_iff.mp H
    obtain ⟨t338, A360, H⟩ := H
    replace H : (impl_Moments_upTo.l0 kj2 t338 ([] : List Int) a1 0 a0_0 l0_1 y332 ([] : List Int) a0_0 ([] : List Int) ([] : List Int)) = some (r1, r2, r3, r4, r5, r6) := H
    have A36 := zA A360
    clear A360
    have H' := zA H
    clear H
    have hnb37 := NB327_328.out; have hnc37 := NB328_327.out; have hnb38 := NB327_335.out; have hnc38 := NB335_327.out
    have hcz39_0 := bc BK327 0
    have hcz39_1 := bc BK327 1
    have hfz39_0 := bf BK327 0
    have hfz39_1 := bf BK327 1
    go_wp2_with (first | ((with_reducible refine gate_callee (f := 75) rfl ?_); refine gL (some 35) Try.func75 #[.agg #[.int .i64 a0_0, .slice A0_1 l0_1.length c0_1]] ?_; (with_reducible refine (impl_Moments_field.calls a0_0 _ _ l0_1 t338 _ ?side1 ?side2 A36.out).mono ?_); (case side1 => exact uC ((Kd.C_below HR0_1.out HB.out))); (case side2 => exact HC0_1.out); rintro e w40 ⟨rfl, hb⟩; refine ⟨_, rfl, ?_⟩; replace HO_336000 := zA (Kd.R_below (uR HO_336000.out) hb); replace BK327 := xB BK327 hb; replace BK328 := xB BK328 hb; replace BK335 := xB BK335 hb; replace HB := xH HB hb; (try clear hb); (try clear hb2); (try clear hk); (try clear hi)))
    go_loopg [8, 37] kj2 (fun kq v8 v37 w' => ∃ (x8_2 : List Int) (x37_2 : Int) (x336000_2 : List (List Int)) (x336001_2 : List Int) (x336003_2 : List Int) (x336004_2 : List Int) (u336000 : Value) (u336001 : Value) (u336003 : Value) (u336004 : Value), v37 = .int .i64 x37_2 ∧ Aside0 (impl_Moments_upTo.l0 kq t338 x8_2 a1 x37_2 a0_0 l0_1 x336000_2 x336001_2 a0_0 x336003_2 x336004_2 = some (r1, r2, r3, r4, r5, r6)) ∧ Aside0 (kq ≤ kj2) ∧ Aside0 (Kd.V (Kd.int .i64) 2 w' w.heap.size (fun k_ => (w.heap.size ≤ k_) ∧ some k_ ≠ (u336000 : Value).ownBlock ∧ some k_ ≠ (u336001 : Value).ownBlock ∧ some k_ ≠ (u336003 : Value).ownBlock ∧ some k_ ≠ (u336004 : Value).ownBlock ∧ k_ ≠ gb327 ∧ k_ ≠ gb328 ∧ k_ ≠ gb335) v8 x8_2) ∧ Aside0 (Kd.R (Kd.slice 2 (Kd.int .i64)) 22 w' w.heap.size (fun k_ => (w.heap.size ≤ k_) ∧ some k_ ≠ (u336001 : Value).ownBlock ∧ some k_ ≠ (u336003 : Value).ownBlock ∧ some k_ ≠ (u336004 : Value).ownBlock ∧ k_ ≠ gb327 ∧ k_ ≠ gb328 ∧ k_ ≠ gb335) u336000 x336000_2) ∧ Aside0 (Kd.R (Kd.int .i64) 2 w' w.heap.size (fun k_ => (w.heap.size ≤ k_) ∧ some k_ ≠ (u336003 : Value).ownBlock ∧ some k_ ≠ (u336004 : Value).ownBlock) u336001 x336001_2) ∧ Aside0 (Kd.R (Kd.int .i64) 2 w' w.heap.size (fun k_ => (w.heap.size ≤ k_) ∧ some k_ ≠ (u336001 : Value).ownBlock ∧ some k_ ≠ (u336004 : Value).ownBlock) u336003 x336003_2) ∧ Aside0 (Kd.R (Kd.int .i64) 2 w' w.heap.size (fun k_ => (w.heap.size ≤ k_) ∧ some k_ ≠ (u336001 : Value).ownBlock ∧ some k_ ≠ (u336003 : Value).ownBlock) u336004 x336004_2) ∧ Aside0 (w'.heap[gb327]? = some (.cells #[.int .i64 a0_0, (.slice A0_1 l0_1.length c0_1)] 40 (0, 0))) ∧ Aside0 (w'.heap[gb328]? = some (.cells #[(.slice none 0 0), (.slice none 0 0), .int .i64 0, (.slice none 0 0), (.slice none 0 0)] 95 (0, 0))) ∧ Aside0 (w'.heap[gb335]? = some (.cells #[u336000, u336001, .int .i64 a0_0, u336003, u336004] 95 (0, 0))) ∧ Aside0 (Below w.heap.size w w'))
    case atStart => exact ⟨(([] : List Int)), (0), (y332), (([] : List Int)), (([] : List Int)), (([] : List Int)), (.slice Ao13 y332.length co13), (.slice none 0 0), (.slice none 0 0), (.slice none 0 0), (by first | rfl | (simp; done) | (simp [*]; done)), H', ⟨Nat.le_refl _⟩, ⟨Kd.V_nil _ _ _ _ _⟩, ⟨by (with_reducible repeat (first | apply Kd.R_alloc | apply Kd.R_drewN | apply Kd.R_drew)); exact Kd.R_mono HO_336000.out (fun _ hk => ⟨hk.1, ⟨(by simp [Value.ownBlock]), ⟨(by simp [Value.ownBlock]), ⟨(by simp [Value.ownBlock]), ⟨hk.2.1, ⟨hk.2.2.1, hk.2.2.2⟩⟩⟩⟩⟩⟩)⟩, ⟨by first | exact Kd.R_nil _ _ _ _ _ | exact Kd.R_nil _ _ _ _ _ | exact Kd.V_nil _ _ _ _ _ | exact Kd.Q_nil _ _ _ _ _ | exact Kd.S_nil _ _ _ _ _⟩, ⟨by first | exact Kd.R_nil _ _ _ _ _ | exact Kd.R_nil _ _ _ _ _ | exact Kd.V_nil _ _ _ _ _ | exact Kd.Q_nil _ _ _ _ _ | exact Kd.S_nil _ _ _ _ _⟩, ⟨by first | exact Kd.R_nil _ _ _ _ _ | exact Kd.R_nil _ _ _ _ _ | exact Kd.V_nil _ _ _ _ _ | exact Kd.Q_nil _ _ _ _ _ | exact Kd.S_nil _ _ _ _ _⟩, ⟨uB BK327.out⟩, ⟨uB BK328.out⟩, ⟨uB BK335.out⟩, ⟨uH HB.out⟩⟩
    case round =>
     clear H'
     (try clear c1);(try clear c2);(try clear p2);(try clear c3);(try clear p6);(try clear c7);(try clear c8);(try clear c9);(try clear c11);(try clear c15);(try clear c16);(try clear c19);(try clear c19b0);(try clear c20);(try clear c21);(try clear c25);(try clear c26);(try clear c30);(try clear c31);(try clear c32);(try clear c34);(try clear c37);(try clear c38);(try clear hcz12_0);(try clear hcz12_1)
     (try clear hcz17_0);(try clear hcz17_1);(try clear hcz17_2);(try clear hcz17_3);(try clear hcz17_4);(try clear hcz22_0);(try clear hcz22_1);(try clear hcz27_0);(try clear hcz27_1);(try clear hcz29_0);(try clear hcz29_1);(try clear hcz33_0);(try clear hcz33_1);(try clear hcz33_2);(try clear hcz33_3);(try clear hcz33_4);(try clear hcz35_0);(try clear hcz35_1);(try clear hcz35_2);(try clear hcz35_3)
     (try clear hcz35_4);(try clear hcz39_0);(try clear hcz39_1);(try clear hfz12_0);(try clear hfz12_1);(try clear hfz17_0);(try clear hfz17_1);(try clear hfz17_2);(try clear hfz17_3);(try clear hfz17_4);(try clear hfz22_0);(try clear hfz22_1);(try clear hfz27_0);(try clear hfz27_1);(try clear hfz29_0);(try clear hfz29_1);(try clear hfz33_0);(try clear hfz33_1);(try clear hfz33_2);(try clear hfz33_3)
     (try clear hfz33_4);(try clear hfz35_0);(try clear hfz35_1);(try clear hfz35_2);(try clear hfz35_3);(try clear hfz35_4);(try clear hfz39_0);(try clear hfz39_1);(try clear p2);(try clear p6)
     obtain ⟨x8_2, x37_2, x336000_2, x336001_2, x336003_2, x336004_2, u336000, u336001, u336003, u336004, rfl, HA, HK2, HO_8, HO_336000, HO_336001, HO_336003, HO_336004, BK327, BK328, BK335, HB⟩ := hrel
     cases gk with
     | zero => exact absurd HA.out (by simp [impl_Moments_upTo.l0])
     | succ k2 =>
      have H := HA.out
      clear HA
      simp only [impl_Moments_upTo.l0] at H
      by_cases c41 : x37_2 < a1
      rotate_left
      ·rw [if_neg c41] at H
       have c41b0 : decide (x37_2 < a1) = false := decide_eq_false c41
       clear c41
       simp only [Option.some.injEq, Prod.mk.injEq] at H
       obtain ⟨rfl, rfl, rfl, rfl, rfl, rfl⟩ := H
       have hnb172 := NB335_327.out; have hnc172 := NB327_335.out; have hnb173 := NB335_328.out; have hnc173 := NB328_335.out
       have hcz174_0 := bc BK335 0
       have hcz174_1 := bc BK335 1
       have hcz174_2 := bc BK335 2
       have hcz174_3 := bc BK335 3
       have hcz174_4 := bc BK335 4
       have hfz174_0 := bf BK335 0
       have hfz174_1 := bf BK335 1
       have hfz174_2 := bf BK335 2
       have hfz174_3 := bf BK335 3
       have hfz174_4 := bf BK335 4
       obtain ⟨Ao175, co175, eo175⟩ := Kd.R_slice HO_336000.out
       subst eo175
       have hnb176 := NB328_327.out; have hnc176 := NB327_328.out
       have hcz177_0 := bc BK328 0
       have hcz177_1 := bc BK328 1
       have hcz177_2 := bc BK328 2
       have hcz177_3 := bc BK328 3
       have hcz177_4 := bc BK328 4
       have hfz177_0 := bf BK328 0
       have hfz177_1 := bf BK328 1
       have hfz177_2 := bf BK328 2
       have hfz177_3 := bf BK328 3
       have hfz177_4 := bf BK328 4
       obtain ⟨Ao178, co178, eo178⟩ := Kd.R_slice HO_336001.out
       subst eo178
       obtain ⟨Ao179, co179, eo179⟩ := Kd.R_slice HO_336003.out
       subst eo179
       obtain ⟨Ao180, co180, eo180⟩ := Kd.R_slice HO_336004.out
       subst eo180
       go_wp2
       refine bodyPost_ret (results_ct rfl _ _ gb328 95 #[.slice Ao175 x336000_2.length co175, .slice Ao178 x336001_2.length co178, .int .i64 a0_0, .slice Ao179 x336003_2.length co179, .slice Ao180 x336004_2.length co180] (0, 0) _ rfl (by (repeat refine up1 ?_); refine blk_put (cs := #[.slice Ao175 x336000_2.length co175, .slice Ao178 x336001_2.length co178, .int .i64 a0_0, .slice Ao179 x336003_2.length co179, .slice none 0 0]) ?_ 4 _ rfl; (repeat refine up1 ?_); refine blk_put (cs := #[.slice Ao175 x336000_2.length co175, .slice Ao178 x336001_2.length co178, .int .i64 a0_0, .slice none 0 0, .slice none 0 0]) ?_ 3 _ rfl; (repeat refine up1 ?_); refine blk_put (cs := #[.slice Ao175 x336000_2.length co175, .slice Ao178 x336001_2.length co178, .int .i64 0, .slice none 0 0, .slice none 0 0]) ?_ 2 _ rfl; (repeat refine up1 ?_); refine blk_put (cs := #[.slice Ao175 x336000_2.length co175, .slice none 0 0, .int .i64 0, .slice none 0 0, .slice none 0 0]) ?_ 1 _ rfl; (repeat refine up1 ?_); refine blk_put (cs := #[.slice none 0 0, .slice none 0 0, .int .i64 0, .slice none 0 0, .slice none 0 0]) ?_ 0 _ rfl; (repeat refine up1 ?_); exact BK328.out) Try.underlying95 rfl (by kernel_rfl)) rfl ?_
       exact ⟨_, _, _, _, by first | rfl | (simp [errW_none, errW_some] <;> rfl) | (simp [*, errW_none, errW_some] <;> rfl), by (with_reducible repeat (first | apply Kd.R_alloc | apply Kd.R_drewN | apply Kd.R_drew)); exact Kd.R_mono (Kd.R_far (p := ⟨gb328, 4, none⟩) (Kd.R_far (p := ⟨gb328, 3, none⟩) (Kd.R_far (p := ⟨gb328, 2, none⟩) (Kd.R_far (p := ⟨gb328, 1, none⟩) (Kd.R_far (p := ⟨gb328, 0, none⟩) (Kd.R_mono HO_336000.out (fun k_ hk => (⟨hk, hk.2.2.2.2.2.1⟩ : _ ∧ k_ ≠ gb328))) (fun _ hk => hk.2) (.slice Ao175 x336000_2.length co175)) (fun _ hk => hk.2) (.slice Ao178 x336001_2.length co178)) (fun _ hk => hk.2) (.int .i64 a0_0)) (fun _ hk => hk.2) (.slice Ao179 x336003_2.length co179)) (fun _ hk => hk.2) (.slice Ao180 x336004_2.length co180)) (fun _ hk => ⟨hk.1.1, ⟨hk.1.2.1, ⟨hk.1.2.2.1, hk.1.2.2.2.1⟩⟩⟩), uR (Kd.R_mono (Kd.R_far (p := ⟨gb328, 4, none⟩) (Kd.R_far (p := ⟨gb328, 3, none⟩) (Kd.R_far (p := ⟨gb328, 2, none⟩) (Kd.R_far (p := ⟨gb328, 1, none⟩) (Kd.R_far (p := ⟨gb328, 0, none⟩) (Kd.R_types HO_336001.out BK328.out (by decide)) (fun _ hk => hk.2) (.slice Ao175 x336000_2.length co175)) (fun _ hk => hk.2) (.slice Ao178 x336001_2.length co178)) (fun _ hk => hk.2) (.int .i64 a0_0)) (fun _ hk => hk.2) (.slice Ao179 x336003_2.length co179)) (fun _ hk => hk.2) (.slice Ao180 x336004_2.length co180)) (fun _ hk => ⟨hk.1.1, ⟨hk.1.2.1, hk.1.2.2⟩⟩)), uR (Kd.R_mono (Kd.R_far (p := ⟨gb328, 4, none⟩) (Kd.R_far (p := ⟨gb328, 3, none⟩) (Kd.R_far (p := ⟨gb328, 2, none⟩) (Kd.R_far (p := ⟨gb328, 1, none⟩) (Kd.R_far (p := ⟨gb328, 0, none⟩) (Kd.R_types HO_336003.out BK328.out (by decide)) (fun _ hk => hk.2) (.slice Ao175 x336000_2.length co175)) (fun _ hk => hk.2) (.slice Ao178 x336001_2.length co178)) (fun _ hk => hk.2) (.int .i64 a0_0)) (fun _ hk => hk.2) (.slice Ao179 x336003_2.length co179)) (fun _ hk => hk.2) (.slice Ao180 x336004_2.length co180)) (fun _ hk => ⟨hk.1.1, ⟨hk.1.2.1, hk.1.2.2⟩⟩)), uR (Kd.R_mono (Kd.R_far (p := ⟨gb328, 4, none⟩) (Kd.R_far (p := ⟨gb328, 3, none⟩) (Kd.R_far (p := ⟨gb328, 2, none⟩) (Kd.R_far (p := ⟨gb328, 1, none⟩) (Kd.R_far (p := ⟨gb328, 0, none⟩) (Kd.R_types HO_336004.out BK328.out (by decide)) (fun _ hk => hk.2) (.slice Ao175 x336000_2.length co175)) (fun _ hk => hk.2) (.slice Ao178 x336001_2.length co178)) (fun _ hk => hk.2) (.int .i64 a0_0)) (fun _ hk => hk.2) (.slice Ao179 x336003_2.length co179)) (fun _ hk => hk.2) (.slice Ao180 x336004_2.length co180)) (fun _ hk => ⟨hk.1.1, ⟨hk.1.2.1, hk.1.2.2⟩⟩)), uH HB.out⟩
      rw [if_pos c41] at H
      have c41b0 : decide (x37_2 < a1) = true := decide_eq_true c41
      clear c41
      by_cases c42 : 0 ≤ x37_2
      rotate_left
      ·rw [if_neg c42] at H
       exact absurd H (by simp)
      rw [if_pos c42] at H
      have c42b0 : decide (0 ≤ x37_2) = true := decide_eq_true c42
      clear c42
      by_cases c43 : x37_2 < (x336000_2.length : Int)
      rotate_left
      ·rw [if_neg c43] at H
       exact absurd H (by simp)
      rw [if_pos c43] at H
      have c43b0 : decide (x37_2 < (x336000_2.length : Int)) = true := decide_eq_true c43
      clear c43
      replace H := Option.bind_eq_some_iff.mp H
      obtain ⟨t340, A440, H⟩ := H
      replace H : ((impl_Moments_apply.f k2 a0_0 l0_1 t340).bind fun t343 => ((impl_field_product.f k2 t338 (([0, 1] : List Int)) t340).bind fun t347 => ((impl_Moments_apply.f k2 a0_0 l0_1 t347).bind fun t350 => ((impl_field_div.f k2 t338 t350 t343).bind fun t351 => (if 0 < (l0_1.length : Int) then ((if x37_2 > 0 then (if 0 ≤ (wrap64 (x37_2 - 1)) then (if (wrap64 (x37_2 - 1)) < (x336001_2.length : Int) then ((impl_field_div.f k2 t338 t343 (rd x336001_2 (wrap64 (x37_2 - 1))))) else (none)) else (none)) else (some (rd l0_1 0))).bind fun t354 => ((impl_field_next.f k2 t338 t351 t354 (rd_L1 x336000_2 x37_2) x8_2).bind fun t382 => ((some (([t382] : List (List Int)) : List (List Int))).bind fun y385 => (if x336000_2.length + y385.length < 5864062014805 then ((some (([t343] : List Int) : List Int)).bind fun y391 => (if x336001_2.length + y391.length < 17592186044416 then ((some (([t351] : List Int) : List Int)).bind fun y397 => (if x336003_2.length + y397.length < 17592186044416 then ((some (([t354] : List Int) : List Int)).bind fun y403 => (if x336004_2.length + y403.length < 17592186044416 then (impl_Moments_upTo.l0 k2 t338 (rd_L1 x336000_2 x37_2) a1 (wrap64 (x37_2 + 1)) a0_0 l0_1 (x336000_2 ++ y385) (x336001_2 ++ y391) a0_0 (x336003_2 ++ y397) (x336004_2 ++ y403)) else (none))) else (none))) else (none))) else (none))))) else (none)))))) = some (r1, r2, r3, r4, r5, r6) := H
      have A44 := zA A440
      clear A440
      replace H := Option.bind_eq_some_iff.mp H
      obtain ⟨t343, A450, H⟩ := H
      replace H : ((impl_field_product.f k2 t338 (([0, 1] : List Int)) t340).bind fun t347 => ((impl_Moments_apply.f k2 a0_0 l0_1 t347).bind fun t350 => ((impl_field_div.f k2 t338 t350 t343).bind fun t351 => (if 0 < (l0_1.length : Int) then ((if x37_2 > 0 then (if 0 ≤ (wrap64 (x37_2 - 1)) then (if (wrap64 (x37_2 - 1)) < (x336001_2.length : Int) then ((impl_field_div.f k2 t338 t343 (rd x336001_2 (wrap64 (x37_2 - 1))))) else (none)) else (none)) else (some (rd l0_1 0))).bind fun t354 => ((impl_field_next.f k2 t338 t351 t354 (rd_L1 x336000_2 x37_2) x8_2).bind fun t382 => ((some (([t382] : List (List Int)) : List (List Int))).bind fun y385 => (if x336000_2.length + y385.length < 5864062014805 then ((some (([t343] : List Int) : List Int)).bind fun y391 => (if x336001_2.length + y391.length < 17592186044416 then ((some (([t351] : List Int) : List Int)).bind fun y397 => (if x336003_2.length + y397.length < 17592186044416 then ((some (([t354] : List Int) : List Int)).bind fun y403 => (if x336004_2.length + y403.length < 17592186044416 then (impl_Moments_upTo.l0 k2 t338 (rd_L1 x336000_2 x37_2) a1 (wrap64 (x37_2 + 1)) a0_0 l0_1 (x336000_2 ++ y385) (x336001_2 ++ y391) a0_0 (x336003_2 ++ y397) (x336004_2 ++ y403)) else (none))) else (none))) else (none))) else (none))))) else (none))))) = some (r1, r2, r3, r4, r5, r6) := H
      have A45 := zA A450
      clear A450
      obtain ⟨y344, hy344⟩ : ∃ y_ : List Int, y_ = (([0, 1] : List Int)) := ⟨_, rfl⟩
      replace H : ((impl_field_product.f k2 t338 y344 t340).bind fun t347 => ((impl_Moments_apply.f k2 a0_0 l0_1 t347).bind fun t350 => ((impl_field_div.f k2 t338 t350 t343).bind fun t351 => (if 0 < (l0_1.length : Int) then ((if x37_2 > 0 then (if 0 ≤ (wrap64 (x37_2 - 1)) then (if (wrap64 (x37_2 - 1)) < (x336001_2.length : Int) then ((impl_field_div.f k2 t338 t343 (rd x336001_2 (wrap64 (x37_2 - 1))))) else (none)) else (none)) else (some (rd l0_1 0))).bind fun t354 => ((impl_field_next.f k2 t338 t351 t354 (rd_L1 x336000_2 x37_2) x8_2).bind fun t382 => ((some (([t382] : List (List Int)) : List (List Int))).bind fun y385 => (if x336000_2.length + y385.length < 5864062014805 then ((some (([t343] : List Int) : List Int)).bind fun y391 => (if x336001_2.length + y391.length < 17592186044416 then ((some (([t351] : List Int) : List Int)).bind fun y397 => (if x336003_2.length + y397.length < 17592186044416 then ((some (([t354] : List Int) : List Int)).bind fun y403 => (if x336004_2.length + y403.length < 17592186044416 then (impl_Moments_upTo.l0 k2 t338 (rd_L1 x336000_2 x37_2) a1 (wrap64 (x37_2 + 1)) a0_0 l0_1 (x336000_2 ++ y385) (x336001_2 ++ y391) a0_0 (x336003_2 ++ y397) (x336004_2 ++ y403)) else (none))) else (none))) else (none))) else (none))))) else (none))))) = some (r1, r2, r3, r4, r5, r6) := by first | (rw [hy344]; exact H) | exact H
      have Ny344 := zA hy344
      clear hy344
      replace H := Option.bind_eq_some_iff.mp H
      obtain ⟨t347, A460, H⟩ := H
      replace H : ((impl_Moments_apply.f k2 a0_0 l0_1 t347).bind fun t350 => ((impl_field_div.f k2 t338 t350 t343).bind fun t351 => (if 0 < (l0_1.length : Int) then ((if x37_2 > 0 then (if 0 ≤ (wrap64 (x37_2 - 1)) then (if (wrap64 (x37_2 - 1)) < (x336001_2.length : Int) then ((impl_field_div.f k2 t338 t343 (rd x336001_2 (wrap64 (x37_2 - 1))))) else (none)) else (none)) else (some (rd l0_1 0))).bind fun t354 => ((impl_field_next.f k2 t338 t351 t354 (rd_L1 x336000_2 x37_2) x8_2).bind fun t382 => ((some (([t382] : List (List Int)) : List (List Int))).bind fun y385 => (if x336000_2.length + y385.length < 5864062014805 then ((some (([t343] : List Int) : List Int)).bind fun y391 => (if x336001_2.length + y391.length < 17592186044416 then ((some (([t351] : List Int) : List Int)).bind fun y397 => (if x336003_2.length + y397.length < 17592186044416 then ((some (([t354] : List Int) : List Int)).bind fun y403 => (if x336004_2.length + y403.length < 17592186044416 then (impl_Moments_upTo.l0 k2 t338 (rd_L1 x336000_2 x37_2) a1 (wrap64 (x37_2 + 1)) a0_0 l0_1 (x336000_2 ++ y385) (x336001_2 ++ y391) a0_0 (x336003_2 ++ y397) (x336004_2 ++ y403)) else (none))) else (none))) else (none))) else (none))))) else (none)))) = some (r1, r2, r3, r4, r5, r6) := H
      have A46 := zA A460
      clear A460
      replace H := Option.bind_eq_some_iff.mp H
      obtain ⟨t350, A470, H⟩ := H
      replace H : ((impl_field_div.f k2 t338 t350 t343).bind fun t351 => (if 0 < (l0_1.length : Int) then ((if x37_2 > 0 then (if 0 ≤ (wrap64 (x37_2 - 1)) then (if (wrap64 (x37_2 - 1)) < (x336001_2.length : Int) then ((impl_field_div.f k2 t338 t343 (rd x336001_2 (wrap64 (x37_2 - 1))))) else (none)) else (none)) else (some (rd l0_1 0))).bind fun t354 => ((impl_field_next.f k2 t338 t351 t354 (rd_L1 x336000_2 x37_2) x8_2).bind fun t382 => ((some (([t382] : List (List Int)) : List (List Int))).bind fun y385 => (if x336000_2.length + y385.length < 5864062014805 then ((some (([t343] : List Int) : List Int)).bind fun y391 => (if x336001_2.length + y391.length < 17592186044416 then ((some (([t351] : List Int) : List Int)).bind fun y397 => (if x336003_2.length + y397.length < 17592186044416 then ((some (([t354] : List Int) : List Int)).bind fun y403 => (if x336004_2.length + y403.length < 17592186044416 then (impl_Moments_upTo.l0 k2 t338 (rd_L1 x336000_2 x37_2) a1 (wrap64 (x37_2 + 1)) a0_0 l0_1 (x336000_2 ++ y385) (x336001_2 ++ y391) a0_0 (x336003_2 ++ y397) (x336004_2 ++ y403)) else (none))) else (none))) else (none))) else (none))))) else (none))) = some (r1, r2, r3, r4, r5, r6) := H
      have A47 := zA A470
      clear A470
      replace H := Option.bind_eq_some_iff.mp H
      obtain ⟨t351, A480, H⟩ := H
      replace H : (if 0 < (l0_1.length : Int) then ((if x37_2 > 0 then (if 0 ≤ (wrap64 (x37_2 - 1)) then (if (wrap64 (x37_2 - 1)) < (x336001_2.length : Int) then ((impl_field_div.f k2 t338 t343 (rd x336001_2 (wrap64 (x37_2 - 1))))) else (none)) else (none)) else (some (rd l0_1 0))).bind fun t354 => ((impl_field_next.f k2 t338 t351 t354 (rd_L1 x336000_2 x37_2) x8_2).bind fun t382 => ((some (([t382] : List (List Int)) : List (List Int))).bind fun y385 => (if x336000_2.length + y385.length < 5864062014805 then ((some (([t343] : List Int) : List Int)).bind fun y391 => (if x336001_2.length + y391.length < 17592186044416 then ((some (([t351] : List Int) : List Int)).bind fun y397 => (if x336003_2.length + y397.length < 17592186044416 then ((some (([t354] : List Int) : List Int)).bind fun y403 => (if x336004_2.length + y403.length < 17592186044416 then (impl_Moments_upTo.l0 k2 t338 (rd_L1 x336000_2 x37_2) a1 (wrap64 (x37_2 + 1)) a0_0 l0_1 (x336000_2 ++ y385) (x336001_2 ++ y391) a0_0 (x336003_2 ++ y397) (x336004_2 ++ y403)) else (none))) else (none))) else (none))) else (none))))) else (none)) = some (r1, r2, r3, r4, r5, r6) := H
      have A48 := zA A480
      clear A480
      by_cases c49 : 0 < (l0_1.length : Int)
      rotate_left
      ·rw [if_neg c49] at H
       exact absurd H (by simp)
      rw [if_pos c49] at H
      have c49b0 : decide (0 < (l0_1.length : Int)) = true := decide_eq_true c49
      have c49b1 : decide (0 < l0_1.length) = true := decide_eq_true (by omega)
      clear c49
      replace H := Option.bind_eq_some_iff.mp H
      obtain ⟨t354, A540, H⟩ := H
      have A54 := zA A540
      clear A540
      replace H := Option.bind_eq_some_iff.mp H
      obtain ⟨t382, A1150, H⟩ := H
      replace H : ((some (([t382] : List (List Int)) : List (List Int))).bind fun y385 => (if x336000_2.length + y385.length < 5864062014805 then ((some (([t343] : List Int) : List Int)).bind fun y391 => (if x336001_2.length + y391.length < 17592186044416 then ((some (([t351] : List Int) : List Int)).bind fun y397 => (if x336003_2.length + y397.length < 17592186044416 then ((some (([t354] : List Int) : List Int)).bind fun y403 => (if x336004_2.length + y403.length < 17592186044416 then (impl_Moments_upTo.l0 k2 t338 (rd_L1 x336000_2 x37_2) a1 (wrap64 (x37_2 + 1)) a0_0 l0_1 (x336000_2 ++ y385) (x336001_2 ++ y391) a0_0 (x336003_2 ++ y397) (x336004_2 ++ y403)) else (none))) else (none))) else (none))) else (none))) = some (r1, r2, r3, r4, r5, r6) := H
      have A115 := zA A1150
      clear A1150
      obtain ⟨y385, hy385⟩ : ∃ y_ : List (List Int), y_ = (([t382] : List (List Int))) := ⟨_, rfl⟩
      replace H : (if x336000_2.length + y385.length < 5864062014805 then ((some (([t343] : List Int) : List Int)).bind fun y391 => (if x336001_2.length + y391.length < 17592186044416 then ((some (([t351] : List Int) : List Int)).bind fun y397 => (if x336003_2.length + y397.length < 17592186044416 then ((some (([t354] : List Int) : List Int)).bind fun y403 => (if x336004_2.length + y403.length < 17592186044416 then (impl_Moments_upTo.l0 k2 t338 (rd_L1 x336000_2 x37_2) a1 (wrap64 (x37_2 + 1)) a0_0 l0_1 (x336000_2 ++ y385) (x336001_2 ++ y391) a0_0 (x336003_2 ++ y397) (x336004_2 ++ y403)) else (none))) else (none))) else (none))) else (none)) = some (r1, r2, r3, r4, r5, r6) := by first | (rw [hy385]; exact H) | exact H
      have Ny385 := zA hy385
      clear hy385
      by_cases c116 : x336000_2.length + y385.length < 5864062014805
      rotate_left
      ·rw [if_neg c116] at H
       exact absurd H (by simp)
      rw [if_pos c116] at H
      have LMc116 := zA c116
      clear c116
      obtain ⟨y388, hy388⟩ : ∃ y_ : List (List Int), y_ = (x336000_2 ++ y385) := ⟨_, rfl⟩
      replace H : ((some (([t343] : List Int) : List Int)).bind fun y391 => (if x336001_2.length + y391.length < 17592186044416 then ((some (([t351] : List Int) : List Int)).bind fun y397 => (if x336003_2.length + y397.length < 17592186044416 then ((some (([t354] : List Int) : List Int)).bind fun y403 => (if x336004_2.length + y403.length < 17592186044416 then (impl_Moments_upTo.l0 k2 t338 (rd_L1 x336000_2 x37_2) a1 (wrap64 (x37_2 + 1)) a0_0 l0_1 y388 (x336001_2 ++ y391) a0_0 (x336003_2 ++ y397) (x336004_2 ++ y403)) else (none))) else (none))) else (none))) = some (r1, r2, r3, r4, r5, r6) := by first | (rw [hy388]; exact H) | exact H
      have Ny388 := zA hy388
      clear hy388
      obtain ⟨y391, hy391⟩ : ∃ y_ : List Int, y_ = (([t343] : List Int)) := ⟨_, rfl⟩
      replace H : (if x336001_2.length + y391.length < 17592186044416 then ((some (([t351] : List Int) : List Int)).bind fun y397 => (if x336003_2.length + y397.length < 17592186044416 then ((some (([t354] : List Int) : List Int)).bind fun y403 => (if x336004_2.length + y403.length < 17592186044416 then (impl_Moments_upTo.l0 k2 t338 (rd_L1 x336000_2 x37_2) a1 (wrap64 (x37_2 + 1)) a0_0 l0_1 y388 (x336001_2 ++ y391) a0_0 (x336003_2 ++ y397) (x336004_2 ++ y403)) else (none))) else (none))) else (none)) = some (r1, r2, r3, r4, r5, r6) := by first | (rw [hy391]; exact H) | exact H
      have Ny391 := zA hy391
      clear hy391
      by_cases c117 : x336001_2.length + y391.length < 17592186044416
      rotate_left
      ·rw [if_neg c117] at H
       exact absurd H (by simp)
      rw [if_pos c117] at H
      have LMc117 := zA c117
      clear c117
      obtain ⟨y394, hy394⟩ : ∃ y_ : List Int, y_ = (x336001_2 ++ y391) := ⟨_, rfl⟩
      replace H : ((some (([t351] : List Int) : List Int)).bind fun y397 => (if x336003_2.length + y397.length < 17592186044416 then ((some (([t354] : List Int) : List Int)).bind fun y403 => (if x336004_2.length + y403.length < 17592186044416 then (impl_Moments_upTo.l0 k2 t338 (rd_L1 x336000_2 x37_2) a1 (wrap64 (x37_2 + 1)) a0_0 l0_1 y388 y394 a0_0 (x336003_2 ++ y397) (x336004_2 ++ y403)) else (none))) else (none))) = some (r1, r2, r3, r4, r5, r6) := by first | (rw [hy394]; exact H) | exact H
      have Ny394 := zA hy394
      clear hy394
      obtain ⟨y397, hy397⟩ : ∃ y_ : List Int, y_ = (([t351] : List Int)) := ⟨_, rfl⟩
      replace H : (if x336003_2.length + y397.length < 17592186044416 then ((some (([t354] : List Int) : List Int)).bind fun y403 => (if x336004_2.length + y403.length < 17592186044416 then (impl_Moments_upTo.l0 k2 t338 (rd_L1 x336000_2 x37_2) a1 (wrap64 (x37_2 + 1)) a0_0 l0_1 y388 y394 a0_0 (x336003_2 ++ y397) (x336004_2 ++ y403)) else (none))) else (none)) = some (r1, r2, r3, r4, r5, r6) := by first | (rw [hy397]; exact H) | exact H
      have Ny397 := zA hy397
      clear hy397
      by_cases c118 : x336003_2.length + y397.length < 17592186044416
      rotate_left
      ·rw [if_neg c118] at H
       exact absurd H (by simp)
      rw [if_pos c118] at H
      have LMc118 := zA c118
      clear c118
      obtain ⟨y400, hy400⟩ : ∃ y_ : List Int, y_ = (x336003_2 ++ y397) := ⟨_, rfl⟩
      replace H : ((some (([t354] : List Int) : List Int)).bind fun y403 => (if x336004_2.length + y403.length < 17592186044416 then (impl_Moments_upTo.l0 k2 t338 (rd_L1 x336000_2 x37_2) a1 (wrap64 (x37_2 + 1)) a0_0 l0_1 y388 y394 a0_0 y400 (x336004_2 ++ y403)) else (none))) = some (r1, r2, r3, r4, r5, r6) := by first | (rw [hy400]; exact H) | exact H
      have Ny400 := zA hy400
      clear hy400
      obtain ⟨y403, hy403⟩ : ∃ y_ : List Int, y_ = (([t354] : List Int)) := ⟨_, rfl⟩
      replace H : (if x336004_2.length + y403.length < 17592186044416 then (impl_Moments_upTo.l0 k2 t338 (rd_L1 x336000_2 x37_2) a1 (wrap64 (x37_2 + 1)) a0_0 l0_1 y388 y394 a0_0 y400 (x336004_2 ++ y403)) else (none)) = some (r1, r2, r3, r4, r5, r6) := by first | (rw [hy403]; exact H) | exact H
      have Ny403 := zA hy403
      clear hy403
      by_cases c119 : x336004_2.length + y403.length < 17592186044416
      rotate_left
      ·rw [if_neg c119] at H
       exact absurd H (by simp)
      rw [if_pos c119] at H
      have LMc119 := zA c119
      clear c119
      obtain ⟨y406, hy406⟩ : ∃ y_ : List Int, y_ = (x336004_2 ++ y403) := ⟨_, rfl⟩
      replace H : (impl_Moments_upTo.l0 k2 t338 (rd_L1 x336000_2 x37_2) a1 (wrap64 (x37_2 + 1)) a0_0 l0_1 y388 y394 a0_0 y400 y406) = some (r1, r2, r3, r4, r5, r6) := by first | (rw [hy406]; exact H) | exact H
      have Ny406 := zA hy406
      clear hy406
      have H' := zA H
      clear H
      have hnb120 := NB335_327.out; have hnc120 := NB327_335.out; have hnb121 := NB335_328.out; have hnc121 := NB328_335.out
      have hcz122_0 := bc BK335 0
      have hcz122_1 := bc BK335 1
      have hcz122_2 := bc BK335 2
      have hcz122_3 := bc BK335 3
      have hcz122_4 := bc BK335 4
      have hfz122_0 := bf BK335 0
      have hfz122_1 := bf BK335 1
      have hfz122_2 := bf BK335 2
      have hfz122_3 := bf BK335 3
      have hfz122_4 := bf BK335 4
      obtain ⟨Ao123, co123, eo123⟩ := Kd.R_slice HO_336000.out
      subst eo123
      have p339 : 0 ≤ (x37_2 : Int) := of_decide_eq_true (by first | (with_reducible assumption) | assumption)
      have q339 : x37_2 < (x336000_2.length : Int) := of_decide_eq_true (by first | (with_reducible assumption) | assumption)
      obtain ⟨ad339, A339_0, c339_0, e339, hx339_0, hl339_0, hi339_0⟩ := at_L1 (Kd.R_reads' HO_336000.out).2.2 x37_2 p339 q339
      cases e339
      obtain ⟨ce339, hce339, hMe339, hcc339⟩ := Kd.N_get (Kd.R_N HO_336000.out) [] x37_2 p339 (by first | exact q339 | exact of_decide_eq_true (by first | (with_reducible assumption) | assumption) | (have e_ := (Kd.R_reads' HO_336000.out).1; omega))
      obtain ⟨ua339_0, uc339_0, rfl, ul339_0, ge339_0⟩ := Kd.FK_slice_open hMe339
      have hv339_0 := hcc339 0 _ rfl
      rw [Nat.add_zero, show ((Kd.slice 2 (Kd.int .i64))).sz = 1 from rfl, Nat.mul_one] at hv339_0
      replace hv339_0 := Option.some.inj (hv339_0.symm.trans hx339_0)
      injection hv339_0 with hva_ hvn_ hvc_
      rw [hva_] at ge339_0
      rw [hvc_] at ul339_0
      have HL339_0 := zA (show Kd.V (Kd.int .i64) 2 _ w.heap.size _ _ (rd_L1 x336000_2 x37_2) from Kd.V_mk ul339_0 ge339_0)
      clear hva_ hvn_ hvc_ ge339_0 ul339_0
      clear hcc339 hce339
      have HR339_0 := zA hi339_0
      have HC339_0 := zA hl339_0
      clear hi339_0 hl339_0
      replace p339 := eq_true p339
      replace q339 := eq_true q339
      try go_wp2_with (first | ((with_reducible refine gate_callee (f := 89) rfl ?_); refine gL (some 48) Try.func89 #[.int .i64 t338, .slice A339_0 (rd_L1 x336000_2 x37_2).length c339_0, .slice A339_0 (rd_L1 x336000_2 x37_2).length c339_0] ?_; (with_reducible refine (impl_field_product.calls k2 t338 _ _ (rd_L1 x336000_2 x37_2) _ _ (rd_L1 x336000_2 x37_2) t340 _ ?side1 ?side2 ?side3 ?side4 A44.out).mono ?_); (case side1 => repeat (first | exact (by repeat (first | (with_reducible exact HR339_0.out) | (with_reducible refine Kd.C_alloc ?_ _) | (with_reducible refine Kd.C_drewN ?_ _) | (with_reducible refine Kd.C_drew ?_) | exact HR339_0.out)) | (with_reducible refine Kd.C_alloc ?_ _) | (with_reducible refine Kd.C_drewN ?_ _) | (with_reducible refine Kd.C_drew ?_))); (case side2 => exact HC339_0.out); (case side3 => repeat (first | exact (by repeat (first | (with_reducible exact HR339_0.out) | (with_reducible refine Kd.C_alloc ?_ _) | (with_reducible refine Kd.C_drewN ?_ _) | (with_reducible refine Kd.C_drew ?_) | exact HR339_0.out)) | (with_reducible refine Kd.C_alloc ?_ _) | (with_reducible refine Kd.C_drewN ?_ _) | (with_reducible refine Kd.C_drew ?_))); (case side4 => exact HC339_0.out); rintro e w124 ⟨v341, rfl, ho0, hb⟩; refine ⟨_, rfl, ?_⟩; replace HO_8 := zA (Kd.V_elder' (by (with_reducible repeat (first | apply Kd.V_alloc | apply Kd.V_drewN | apply Kd.V_drew)); exact HO_8.out) (Kd.R_base ho0) hb); replace HO_336000 := zA (Kd.R_elder' (uR HO_336000.out) (Kd.R_base ho0) hb); replace HL339_0 := zA (Kd.V_elder' (by (with_reducible repeat (first | apply Kd.V_alloc | apply Kd.V_drewN | apply Kd.V_drew)); exact HL339_0.out) (Kd.R_base ho0) hb); have HO342 := zA (Kd.R_lower (Kd.R_new' (Kd.R_new' (Kd.R_new' (Kd.R_newM (M := fun k_ => (w.heap.size ≤ k_)) ho0 (below_size (uH HB.out)) (fun k_ h_ => h_)) (Kd.R_lt (uR HO_336001.out))) (Kd.R_lt (uR HO_336003.out))) (Kd.R_lt (uR HO_336004.out))) (below_size (uH HB.out))); replace HO_336001 := zA (Kd.R_elder' (uR HO_336001.out) (Kd.R_base ho0) hb); replace HO_336003 := zA (Kd.R_elder' (uR HO_336003.out) (Kd.R_base ho0) hb); replace HO_336004 := zA (Kd.R_elder' (uR HO_336004.out) (Kd.R_base ho0) hb); replace BK327 := xB BK327 hb; replace BK328 := xB BK328 hb; replace BK335 := xB BK335 hb; replace HR339_0 := zA (Kd.C_below (by repeat (first | (with_reducible exact HR339_0.out) | (with_reducible refine Kd.C_alloc ?_ _) | (with_reducible refine Kd.C_drewN ?_ _) | (with_reducible refine Kd.C_drew ?_) | exact HR339_0.out)) hb); replace HB := xH HB hb; (try clear hb); (try clear hb2); (try clear hk); (try clear hi); (try clear ho0); have hnb125 := NB327_328.out; have hnc125 := NB328_327.out; have hcz126_0 := bc BK327 0; have hcz126_1 := bc BK327 1; have hfz126_0 := bf BK327 0; have hfz126_1 := bf BK327 1; obtain ⟨Ao127, co127, eo127⟩ := Kd.R_slice HO342.out; subst eo127) | ((with_reducible refine gate_callee (f := 74) rfl ?_); refine gL (some 51) Try.func74 #[.agg #[.int .i64 a0_0, .slice A0_1 l0_1.length c0_1], .slice Ao127 t340.length co127] ?_; (with_reducible refine (impl_Moments_apply.calls k2 a0_0 _ _ l0_1 _ _ t340 t343 _ ?side1 ?side2 ?side3 ?side4 A45.out).mono ?_); (case side1 => exact uC ((Kd.C_below HR0_1.out HB.out))); (case side2 => exact HC0_1.out); (case side3 => exact uC ((Kd.R_reads' HO342.out).2.2)); (case side4 => exact (Kd.R_reads' HO342.out).2.1); rintro e w128 ⟨rfl, hb⟩; refine ⟨_, rfl, ?_⟩; replace HO_8 := zA (Kd.V_below (by (with_reducible repeat (first | apply Kd.V_alloc | apply Kd.V_drewN | apply Kd.V_drew)); exact HO_8.out) hb); replace HO_336000 := zA (Kd.R_below (uR HO_336000.out) hb); replace HO_336001 := xR HO_336001 hb; replace HO_336003 := xR HO_336003 hb; replace HO_336004 := xR HO_336004 hb; replace HL339_0 := zA (Kd.V_below (by (with_reducible repeat (first | apply Kd.V_alloc | apply Kd.V_drewN | apply Kd.V_drew)); exact HL339_0.out) hb); replace HO342 := xR HO342 hb; replace BK327 := xB BK327 hb; replace BK328 := xB BK328 hb; replace BK335 := xB BK335 hb; replace HR339_0 := zA (Kd.C_below (by repeat (first | (with_reducible exact HR339_0.out) | (with_reducible refine Kd.C_alloc ?_ _) | (with_reducible refine Kd.C_drewN ?_ _) | (with_reducible refine Kd.C_drew ?_) | exact HR339_0.out)) hb); replace HB := xH HB hb; (try clear hb); (try clear hb2); (try clear hk); (try clear hi)))
      replace HO_8 := zA (Kd.V_drew HO_8.out)
      replace HO_336000 := zA (Kd.R_drew HO_336000.out)
      replace HO_336001 := zA (Kd.R_drew HO_336001.out)
      replace HO_336003 := zA (Kd.R_drew HO_336003.out)
      replace HO_336004 := zA (Kd.R_drew HO_336004.out)
      replace HL339_0 := zA (Kd.V_drew HL339_0.out)
      replace HO342 := zA (Kd.R_drew HO342.out)
      replace BK327 := zA (blk_drew BK327.out)
      replace BK328 := zA (blk_drew BK328.out)
      replace BK335 := zA (blk_drew BK335.out)
      replace HR339_0 := zA (Kd.C_drew HR339_0.out)
      replace HB := zA (below_drew1 HB.out)
      refine start_ (n := 10) (S := fun w' => w'.cell? ⟨gb327, 0, none⟩ = some (.int .i64 a0_0) ∧ w'.cell? ⟨gb327, 1, none⟩ = some (.slice A0_1 l0_1.length c0_1)) (ds := []) #[false, false, false, false, false, false, false, false, false, false] (by kernel_rfl) rfl rfl ⟨bcu BK327 0, bcu BK327 1⟩ (fun hHeld => ?_); refine with_tabW impl_Moments_upTo.tab12 impl_Moments_upTo.bits12 (fun HT_ HW_ => ?_)
      generalize w128.drew = w129 at HO_8 HO_336000 HO_336001 HO_336003 HO_336004 HL339_0 HO342 BK327 BK328 BK335 HR339_0 HB hHeld ⊢
      refine pu_ 0 52 (bl 10 1) HT_ ?_
      refine pu_ 2 54 (bl 10 5) HT_ ?_
      refine pu_ 4 56 (bl 10 21) HT_ ?_
      refine pu_ 7 59 (bl 10 149) HT_ ?_
      refine ta_ 1 53 (bl 10 151) HT_ HW_ hHeld ?_
      refine on_ 3 (some 55) (bl 10 159) HT_ (fun K hK => ?_)
      refine Kd.R_lit_step (Kd.int .i64) _ 2 ?hg (N := 55) ?hd (xs := ([0, 1] : List Int)) (inner := [.int .i64 0, .int .i64 1]) (ok := fun _ => True) (okp := fun _ => True) ?hr ?hp (fun _ hk => hk) trivial (Below.refl _ _) (Nat.le_refl _) (by simp) ?_; (case hd => rfl); (case hg => rfl); (case hr => first | (go_simp; done) | (go_simp; rfl)); (case hp => exact (Reps.one (show Kd.M (Kd.int .i64) _ _ _ 0 [.int .i64 0] from rfl) (Reps.one (show Kd.M (Kd.int .i64) _ _ _ 1 [.int .i64 1] from rfl) (Reps.none _ _))))
      intro v345 w130 ho131 hb hg_ hnew_
      clear hg_ hnew_
      (first | rw [← Ny344.out] at ho131 | (simp only [Int.reduceToNat] at ho131; rw [← Ny344.out] at ho131))
      replace HO_8 := zA (Kd.V_elder' (by (with_reducible repeat (first | apply Kd.V_alloc | apply Kd.V_drewN | apply Kd.V_drew)); exact HO_8.out) (Kd.R_base ho131) hb)
      replace HO_336000 := zA (Kd.R_elder' (uR HO_336000.out) (Kd.R_base ho131) hb)
      replace HL339_0 := zA (Kd.V_elder' (by (with_reducible repeat (first | apply Kd.V_alloc | apply Kd.V_drewN | apply Kd.V_drew)); exact HL339_0.out) (Kd.R_base ho131) hb)
      have HO346 := zA (Kd.R_lower (Kd.R_new' (Kd.R_new' (Kd.R_new' (Kd.R_new' (Kd.R_newM (M := fun k_ => (w.heap.size ≤ k_)) ho131 (below_size (uH HB.out)) (fun k_ h_ => h_)) (Kd.R_lt (uR HO_336001.out))) (Kd.R_lt (uR HO_336003.out))) (Kd.R_lt (uR HO_336004.out))) (Kd.R_lt (uR HO342.out))) (below_size (uH HB.out)))
      replace HO_336001 := zA (Kd.R_elder' (uR HO_336001.out) (Kd.R_base ho131) hb)
      replace HO_336003 := zA (Kd.R_elder' (uR HO_336003.out) (Kd.R_base ho131) hb)
      replace HO_336004 := zA (Kd.R_elder' (uR HO_336004.out) (Kd.R_base ho131) hb)
      replace HO342 := zA (Kd.R_elder' (uR HO342.out) (Kd.R_base ho131) hb)
      replace BK327 := xB BK327 hb
      replace BK328 := xB BK328 hb
      replace BK335 := xB BK335 hb
      replace HR339_0 := zA (Kd.C_below (by repeat (first | (with_reducible exact HR339_0.out) | (with_reducible refine Kd.C_alloc ?_ _) | (with_reducible refine Kd.C_drewN ?_ _) | (with_reducible refine Kd.C_drew ?_) | exact HR339_0.out)) hb)
      replace HB := xH HB hb
      clear hb ho131
      obtain ⟨Ao132, co132, eo132⟩ := Kd.R_slice HO346.out
      (first | subst eo132 | (injection eo132 with f1_ f2_ f3_; have f4_ := f1_.symm; have f5_ := f3_.symm; clear f1_ f2_ f3_; subst f4_; subst f5_))
      refine hK.out _ _ ⟨bcu BK327 0, bcu BK327 1⟩ (fun hHeld => ?_)
      clear hK K
      refine no_ 55 ?_
      refine on_ 5 (some 57) (bl 10 191) HT_ (fun K hK => ?_)
      refine gS Try.func89 #[.int .i64 t338, .slice Ao132 y344.length co132, .slice Ao127 t340.length co127] ?_
      with_reducible refine (impl_field_product.calls k2 t338 _ _ y344 _ _ t340 t347 _ ?side1 ?side2 ?side3 ?side4 A46.out).mono ?_
      (case side1 => exact uC ((Kd.R_reads' HO346.out).2.2))
      (case side2 => exact (Kd.R_reads' HO346.out).2.1)
      (case side3 => exact uC ((Kd.R_reads' HO342.out).2.2))
      (case side4 => exact (Kd.R_reads' HO342.out).2.1)
      rintro e w133 ⟨v348, rfl, ho0, hb⟩
      refine ⟨_, rfl, ?_⟩
      replace HO_8 := zA (Kd.V_elder' (by (with_reducible repeat (first | apply Kd.V_alloc | apply Kd.V_drewN | apply Kd.V_drew)); exact HO_8.out) (Kd.R_base ho0) hb)
      replace HO_336000 := zA (Kd.R_elder' (uR HO_336000.out) (Kd.R_base ho0) hb)
      replace HL339_0 := zA (Kd.V_elder' (by (with_reducible repeat (first | apply Kd.V_alloc | apply Kd.V_drewN | apply Kd.V_drew)); exact HL339_0.out) (Kd.R_base ho0) hb)
      have HO349 := zA (Kd.R_lower (Kd.R_new' (Kd.R_new' (Kd.R_new' (Kd.R_new' (Kd.R_new' (Kd.R_newM (M := fun k_ => (w.heap.size ≤ k_)) ho0 (below_size (uH HB.out)) (fun k_ h_ => h_)) (Kd.R_lt (uR HO_336001.out))) (Kd.R_lt (uR HO_336003.out))) (Kd.R_lt (uR HO_336004.out))) (Kd.R_lt (uR HO342.out))) (Kd.R_lt (uR HO346.out))) (below_size (uH HB.out)))
      replace HO_336001 := zA (Kd.R_elder' (uR HO_336001.out) (Kd.R_base ho0) hb)
      replace HO_336003 := zA (Kd.R_elder' (uR HO_336003.out) (Kd.R_base ho0) hb)
      replace HO_336004 := zA (Kd.R_elder' (uR HO_336004.out) (Kd.R_base ho0) hb)
      replace HO342 := zA (Kd.R_elder' (uR HO342.out) (Kd.R_base ho0) hb)
      replace HO346 := zA (Kd.R_elder' (uR HO346.out) (Kd.R_base ho0) hb)
      replace BK327 := xB BK327 hb
      replace BK328 := xB BK328 hb
      replace BK335 := xB BK335 hb
      replace HR339_0 := zA (Kd.C_below (by repeat (first | (with_reducible exact HR339_0.out) | (with_reducible refine Kd.C_alloc ?_ _) | (with_reducible refine Kd.C_drewN ?_ _) | (with_reducible refine Kd.C_drew ?_) | exact HR339_0.out)) hb)
      replace HB := xH HB hb
      (try clear hb); (try clear hb2); (try clear hk); (try clear hi); (try clear ho0)
      obtain ⟨Ao134, co134, eo134⟩ := Kd.R_slice HO349.out
      (first | subst eo134 | (injection eo134 with f1_ f2_ f3_; have f4_ := f1_.symm; have f5_ := f3_.symm; clear f1_ f2_ f3_; subst f4_; subst f5_))
      refine hK.out _ _ ⟨bcu BK327 0, bcu BK327 1⟩ (fun hHeld => ?_)
      clear hK K
      refine no_ 57 ?_
      refine on_ 6 (some 58) (bl 10 255) HT_ (fun K hK => ?_)
      refine gS Try.func74 #[.agg #[.int .i64 a0_0, .slice A0_1 l0_1.length c0_1], .slice Ao134 t347.length co134] ?_
      with_reducible refine (impl_Moments_apply.calls k2 a0_0 _ _ l0_1 _ _ t347 t350 _ ?side1 ?side2 ?side3 ?side4 A47.out).mono ?_
      (case side1 => exact uC ((Kd.C_below HR0_1.out HB.out)))
      (case side2 => exact HC0_1.out)
      (case side3 => exact uC ((Kd.R_reads' HO349.out).2.2))
      (case side4 => exact (Kd.R_reads' HO349.out).2.1)
      rintro e w135 ⟨rfl, hb⟩
      refine ⟨_, rfl, ?_⟩
      replace HO_8 := zA (Kd.V_below (by (with_reducible repeat (first | apply Kd.V_alloc | apply Kd.V_drewN | apply Kd.V_drew)); exact HO_8.out) hb)
      replace HO_336000 := zA (Kd.R_below (uR HO_336000.out) hb)
      replace HO_336001 := xR HO_336001 hb
      replace HO_336003 := xR HO_336003 hb
      replace HO_336004 := xR HO_336004 hb
      replace HL339_0 := zA (Kd.V_below (by (with_reducible repeat (first | apply Kd.V_alloc | apply Kd.V_drewN | apply Kd.V_drew)); exact HL339_0.out) hb)
      replace HO342 := xR HO342 hb
      replace HO346 := xR HO346 hb
      replace HO349 := xR HO349 hb
      replace BK327 := xB BK327 hb
      replace BK328 := xB BK328 hb
      replace BK335 := xB BK335 hb
      replace HR339_0 := zA (Kd.C_below (by repeat (first | (with_reducible exact HR339_0.out) | (with_reducible refine Kd.C_alloc ?_ _) | (with_reducible refine Kd.C_drewN ?_ _) | (with_reducible refine Kd.C_drew ?_) | exact HR339_0.out)) hb)
      replace HB := xH HB hb
      (try clear hb); (try clear hb2); (try clear hk); (try clear hi)
      refine hK.out _ _ ⟨bcu BK327 0, bcu BK327 1⟩ (fun hHeld => ?_)
      clear hK K
      refine no_ 58 ?_
      refine on_ 8 (some 60) (bl 10 511) HT_ (fun K hK => ?_)
      refine gS Try.func132 #[.int .i64 t338, .int .i64 t350, .int .i64 t343] ?_
      with_reducible refine (impl_field_div.calls k2 t338 t350 t343 t351 _ A48.out).mono ?_
      rintro e w' ⟨rfl, ⟨nd, rfl⟩⟩
      refine ⟨_, rfl, ?_⟩
      refine hK.out _ _ ⟨bcu BK327 0, bcu BK327 1⟩ (fun hHeld => ?_)
      clear hK K
      refine no_ 60 ?_
      refine pu_ 9 13 (bl 10 1023) HT_ ?_
      refine done_ (done_of HT_.out (by kernel_rfl)) ?_
      have hcz136_0 := bc BK327 0
      have hcz136_1 := bc BK327 1
      have hfz136_0 := bf BK327 0
      have hfz136_1 := bf BK327 1
      have p352 : 0 ≤ (0 : Int) := (by omega)
      have q352 : 0 < (l0_1.length : Int) := of_decide_eq_true (by first | (with_reducible assumption) | assumption)
      obtain ⟨ad352, e352, hx352_0⟩ := Kd.at_int HR0_1.out 0 p352 q352
      cases e352
      have qi352 : (0 < l0_1.length) = True := eq_true (by omega)
      (try rw [show ((0 : Int)).toNat = 0 from rfl] at hx352_0)
      (try rw [Addr.add_zero'] at hx352_0)
      replace hx352_0 := hc HB hx352_0
      replace p352 := eq_true p352
      replace q352 := eq_true q352
      go_upto_if 66 with (fail)
      (rw [drewN_self w135]; generalize hq_ : World.drewN w135 _ = w135; have n0_ : Aside0 (Kd.V (Kd.int .i64) 2 w135 w.heap.size (fun k_ => (w.heap.size ≤ k_) ∧ ax k_ (.slice Ao127 t340.length co127) ∧ ax k_ (.slice Ao132 y344.length co132) ∧ ax k_ (.slice Ao134 t347.length co134) ∧ ax k_ (.slice (some ad339) x336000_2.length co123) ∧ some k_ ≠ (u336001 : Value).ownBlock ∧ some k_ ≠ (u336003 : Value).ownBlock ∧ some k_ ≠ (u336004 : Value).ownBlock ∧ k_ ≠ gb327 ∧ k_ ≠ gb328 ∧ k_ ≠ gb335) (.slice A339_0 (rd_L1 x336000_2 x37_2).length c339_0) (rd_L1 x336000_2 x37_2)) := ⟨by rw [← hq_]; exact (by (with_reducible repeat (first | apply Kd.V_alloc | apply Kd.V_drewN | apply Kd.V_drew)); exact Kd.V_mono HL339_0.out (fun _ hk => ⟨hk.1.1.1.1.1, ⟨hk.1.1.2, ⟨hk.1.2, ⟨hk.2, ⟨hk.1.1.1.2, ⟨hk.1.1.1.1.2.1, ⟨hk.1.1.1.1.2.2.1, ⟨hk.1.1.1.1.2.2.2.1, ⟨hk.1.1.1.1.2.2.2.2.1, ⟨hk.1.1.1.1.2.2.2.2.2.1, hk.1.1.1.1.2.2.2.2.2.2⟩⟩⟩⟩⟩⟩⟩⟩⟩⟩))⟩; have n1_ : Aside0 (Kd.R (Kd.int .i64) 2 w135 w.heap.size (fun k_ => (w.heap.size ≤ k_) ∧ ax k_ (.slice Ao132 y344.length co132) ∧ ax k_ (.slice Ao134 t347.length co134) ∧ some k_ ≠ (u336001 : Value).ownBlock ∧ some k_ ≠ (u336003 : Value).ownBlock ∧ some k_ ≠ (u336004 : Value).ownBlock) (.slice Ao127 t340.length co127) t340) := ⟨by rw [← hq_]; exact (uR (Kd.R_mono HO342.out (fun _ hk => ⟨hk.1.1.1.1.1.1, ⟨hk.1.2, ⟨hk.2, ⟨hk.1.1.1.1.2, ⟨hk.1.1.1.2, hk.1.1.2⟩⟩⟩⟩⟩)))⟩; have n2_ : Aside0 (Kd.R (Kd.int .i64) 2 w135 w.heap.size (fun k_ => (w.heap.size ≤ k_) ∧ ax k_ (.slice Ao127 t340.length co127) ∧ ax k_ (.slice Ao134 t347.length co134) ∧ some k_ ≠ (u336001 : Value).ownBlock ∧ some k_ ≠ (u336003 : Value).ownBlock ∧ some k_ ≠ (u336004 : Value).ownBlock) (.slice Ao132 y344.length co132) y344) := ⟨by rw [← hq_]; exact (uR (Kd.R_mono HO346.out (fun _ hk => ⟨hk.1.1.1.1.1.1, ⟨hk.1.2, ⟨hk.2, ⟨hk.1.1.1.1.2, ⟨hk.1.1.1.2, hk.1.1.2⟩⟩⟩⟩⟩)))⟩; have n3_ : Aside0 (Kd.R (Kd.int .i64) 2 w135 w.heap.size (fun k_ => (w.heap.size ≤ k_) ∧ ax k_ (.slice Ao127 t340.length co127) ∧ ax k_ (.slice Ao132 y344.length co132) ∧ some k_ ≠ (u336001 : Value).ownBlock ∧ some k_ ≠ (u336003 : Value).ownBlock ∧ some k_ ≠ (u336004 : Value).ownBlock) (.slice Ao134 t347.length co134) t347) := ⟨by rw [← hq_]; exact (uR (Kd.R_mono HO349.out (fun _ hk => ⟨hk.1.1.1.1.1.1, ⟨hk.1.2, ⟨hk.2, ⟨hk.1.1.1.1.2, ⟨hk.1.1.1.2, hk.1.1.2⟩⟩⟩⟩⟩)))⟩; have n4_ : Aside0 (Kd.R (Kd.slice 2 (Kd.int .i64)) 22 w135 w.heap.size (fun k_ => (w.heap.size ≤ k_) ∧ ax k_ (.slice Ao127 t340.length co127) ∧ ax k_ (.slice Ao132 y344.length co132) ∧ ax k_ (.slice Ao134 t347.length co134) ∧ some k_ ≠ (u336001 : Value).ownBlock ∧ some k_ ≠ (u336003 : Value).ownBlock ∧ some k_ ≠ (u336004 : Value).ownBlock ∧ k_ ≠ gb327 ∧ k_ ≠ gb328 ∧ k_ ≠ gb335) (.slice (some ad339) x336000_2.length co123) x336000_2) := ⟨by rw [← hq_]; exact (uR (Kd.R_mono HO_336000.out (fun _ hk => ⟨hk.1.1.1.1, ⟨hk.1.1.2, ⟨hk.1.2, ⟨hk.2, ⟨hk.1.1.1.2.1, ⟨hk.1.1.1.2.2.1, ⟨hk.1.1.1.2.2.2.1, ⟨hk.1.1.1.2.2.2.2.1, ⟨hk.1.1.1.2.2.2.2.2.1, hk.1.1.1.2.2.2.2.2.2⟩⟩⟩⟩⟩⟩⟩⟩⟩)))⟩; have n5_ : Aside0 (Kd.R (Kd.int .i64) 2 w135 w.heap.size (fun k_ => (w.heap.size ≤ k_) ∧ ax k_ (.slice Ao127 t340.length co127) ∧ ax k_ (.slice Ao132 y344.length co132) ∧ ax k_ (.slice Ao134 t347.length co134) ∧ some k_ ≠ (u336003 : Value).ownBlock ∧ some k_ ≠ (u336004 : Value).ownBlock) u336001 x336001_2) := ⟨by rw [← hq_]; exact (uR (Kd.R_mono HO_336001.out (fun _ hk => ⟨hk.1.1.1.1, ⟨hk.1.1.2, ⟨hk.1.2, ⟨hk.2, ⟨hk.1.1.1.2.1, hk.1.1.1.2.2⟩⟩⟩⟩⟩)))⟩; have n6_ : Aside0 (Kd.R (Kd.int .i64) 2 w135 w.heap.size (fun k_ => (w.heap.size ≤ k_) ∧ ax k_ (.slice Ao127 t340.length co127) ∧ ax k_ (.slice Ao132 y344.length co132) ∧ ax k_ (.slice Ao134 t347.length co134) ∧ some k_ ≠ (u336001 : Value).ownBlock ∧ some k_ ≠ (u336004 : Value).ownBlock) u336003 x336003_2) := ⟨by rw [← hq_]; exact (uR (Kd.R_mono HO_336003.out (fun _ hk => ⟨hk.1.1.1.1, ⟨hk.1.1.2, ⟨hk.1.2, ⟨hk.2, ⟨hk.1.1.1.2.1, hk.1.1.1.2.2⟩⟩⟩⟩⟩)))⟩; have n7_ : Aside0 (Kd.R (Kd.int .i64) 2 w135 w.heap.size (fun k_ => (w.heap.size ≤ k_) ∧ ax k_ (.slice Ao127 t340.length co127) ∧ ax k_ (.slice Ao132 y344.length co132) ∧ ax k_ (.slice Ao134 t347.length co134) ∧ some k_ ≠ (u336001 : Value).ownBlock ∧ some k_ ≠ (u336003 : Value).ownBlock) u336004 x336004_2) := ⟨by rw [← hq_]; exact (uR (Kd.R_mono HO_336004.out (fun _ hk => ⟨hk.1.1.1.1, ⟨hk.1.1.2, ⟨hk.1.2, ⟨hk.2, ⟨hk.1.1.1.2.1, hk.1.1.1.2.2⟩⟩⟩⟩⟩)))⟩; have n8_ : Aside0 (Kd.V (Kd.int .i64) 2 w135 w.heap.size (fun k_ => (w.heap.size ≤ k_) ∧ ax k_ (.slice Ao127 t340.length co127) ∧ ax k_ (.slice Ao132 y344.length co132) ∧ ax k_ (.slice Ao134 t347.length co134) ∧ ax k_ (.slice (some ad339) x336000_2.length co123) ∧ some k_ ≠ (u336001 : Value).ownBlock ∧ some k_ ≠ (u336003 : Value).ownBlock ∧ some k_ ≠ (u336004 : Value).ownBlock ∧ k_ ≠ gb327 ∧ k_ ≠ gb328 ∧ k_ ≠ gb335) u8 x8_2) := ⟨by rw [← hq_]; exact (by (with_reducible repeat (first | apply Kd.V_alloc | apply Kd.V_drewN | apply Kd.V_drew)); exact Kd.V_mono HO_8.out (fun _ hk => ⟨hk.1.1.1.1, ⟨hk.1.1.2, ⟨hk.1.2, ⟨hk.2, ⟨hk.1.1.1.2.1, ⟨hk.1.1.1.2.2.1, ⟨hk.1.1.1.2.2.2.1, ⟨hk.1.1.1.2.2.2.2.1, ⟨hk.1.1.1.2.2.2.2.2.1, ⟨hk.1.1.1.2.2.2.2.2.2.1, hk.1.1.1.2.2.2.2.2.2.2⟩⟩⟩⟩⟩⟩⟩⟩⟩⟩))⟩; have n9_ : Aside0 (w135.heap[gb327]? = some (.cells #[.int .i64 a0_0, .slice (some ad352) l0_1.length c0_1] 40 (0, 0))) := ⟨by rw [← hq_]; exact (uB BK327.out)⟩; have n10_ : Aside0 (w135.heap[gb328]? = some (.cells #[.slice none 0 0, .slice none 0 0, .int .i64 0, .slice none 0 0, .slice none 0 0] 95 (0, 0))) := ⟨by rw [← hq_]; exact (uB BK328.out)⟩; have n11_ : Aside0 (w135.heap[gb335]? = some (.cells #[.slice (some ad339) x336000_2.length co123, u336001, .int .i64 a0_0, u336003, u336004] 95 (0, 0))) := ⟨by rw [← hq_]; exact (uB BK335.out)⟩; have n12_ : Aside0 (Below w.heap.size w w135) := ⟨by rw [← hq_]; exact (uH HB.out)⟩; have n13_ : Aside0 (Kd.C (Kd.int .i64) w135 A339_0 (rd_L1 x336000_2 x37_2).length (rd_L1 x336000_2 x37_2)) := ⟨by rw [← hq_]; exact (by repeat (first | (with_reducible exact HR339_0.out) | (with_reducible refine Kd.C_alloc ?_ _) | (with_reducible refine Kd.C_drewN ?_ _) | (with_reducible refine Kd.C_drew ?_) | exact HR339_0.out))⟩; clear HL339_0 HO342 HO346 HO349 HO_336000 HO_336001 HO_336003 HO_336004 HO_8 BK327 BK328 BK335 HB HR339_0 hq_; have HL339_0 := n0_; have HO342 := n1_; have HO346 := n2_; have HO349 := n3_; have HO_336000 := n4_; have HO_336001 := n5_; have HO_336003 := n6_; have HO_336004 := n7_; have HO_8 := n8_; have BK327 := n9_; have BK328 := n10_; have BK335 := n11_; have HB := n12_; have HR339_0 := n13_; clear n0_ n1_ n2_ n3_ n4_ n5_ n6_ n7_ n8_ n9_ n10_ n11_ n12_ n13_)
      go_cut [14] (fun v14 wc => ∃ n_ : Nat, v14 = .int .i64 t354 ∧ wc = w135.drewN n_)
      case first =>
       have A541 := A54.out
       clear A54
       by_cases c50 : x37_2 > 0
       ·rw [if_pos c50] at A541
        have c50b0 : decide (0 < x37_2) = true := decide_eq_true c50
        have c50b1 : decide (x37_2 > 0) = true := decide_eq_true c50
        have c50b2 : 0 < x37_2 := c50
        obtain ⟨ji51, hji51⟩ : ∃ j_ : Int, (wrap64 (x37_2 - 1)) = j_ := ⟨_, rfl⟩
        rw [hji51] at A541
        have hji51w : (IntKind.i64.wrap (x37_2 - 1)) = ji51 := (i64_w _).trans hji51
        by_cases c52 : 0 ≤ (ji51)
        ·rw [if_pos c52] at A541
         have c52b0 : decide (0 ≤ (ji51)) = true := decide_eq_true c52
         clear c52
         by_cases c53 : (ji51) < (x336001_2.length : Int)
         ·rw [if_pos c53] at A541
          have c53b0 : decide ((ji51) < (x336001_2.length : Int)) = true := decide_eq_true c53
          clear c53
          have A54 := zA A541
          clear A541
          have hcz77_0 := bc BK335 0
          have hcz77_1 := bc BK335 1
          have hcz77_2 := bc BK335 2
          have hcz77_3 := bc BK335 3
          have hcz77_4 := bc BK335 4
          have hfz77_0 := bf BK335 0
          have hfz77_1 := bf BK335 1
          have hfz77_2 := bf BK335 2
          have hfz77_3 := bf BK335 3
          have hfz77_4 := bf BK335 4
          obtain ⟨Ao78, co78, eo78⟩ := Kd.R_slice HO_336001.out
          subst eo78
          have p353 : 0 ≤ ((ji51) : Int) := of_decide_eq_true (by first | (with_reducible assumption) | assumption)
          have q353 : (ji51) < (x336001_2.length : Int) := of_decide_eq_true (by first | (with_reducible assumption) | assumption)
          obtain ⟨ad353, e353, hx353_0⟩ := Kd.at_int (Kd.R_reads' HO_336001.out).2.2 (ji51) p353 q353
          cases e353
          replace p353 := eq_true p353
          replace q353 := eq_true q353
          go_wp2_with (first | ((with_reducible refine gate_callee (f := 132) rfl ?_); refine goesL_ (some 75) rfl rfl Try.func132 (by kernel_rfl) rfl #[.int .i64 t338, .int .i64 t343, .int .i64 (rd x336001_2 (ji51))] rfl (by (try simp only [la, lb, lc]); first | done | (simp only [hji51]; rfl) | rfl | (simp only [ld, le]; rfl)) ?_; (with_reducible refine (impl_field_div.calls k2 t338 t343 (rd x336001_2 (ji51)) t354 _ A54.out).mono ?_); rintro e w' ⟨rfl, ⟨nd, rfl⟩⟩; refine ⟨_, rfl, ?_⟩))
          go_meet
          case rel => exact ⟨_, rfl, rfl⟩
         ·rw [if_neg c53] at A541
          exact absurd A541 (by simp)
        ·rw [if_neg c52] at A541
         exact absurd A541 (by simp)
       ·rw [if_neg c50] at A541
        have c50b0 : decide (0 < x37_2) = false := decide_eq_false c50
        have c50b1 : decide (x37_2 > 0) = false := decide_eq_false c50
        have c50b2 : ¬ 0 < x37_2 := c50
        have e54 := Option.some.inj A541
        go_wp2
        go_meet
        case rel => exact ⟨0, by rw [← e54], rfl⟩
      case rest =>
       obtain ⟨n_, rfl, rfl⟩ := hcut
       try go_wp2
       (rw [drewN_self w135]; generalize hq_ : World.drewN w135 _ = w135; have n0_ : Aside0 (Kd.V (Kd.int .i64) 2 w135 w.heap.size (fun k_ => (w.heap.size ≤ k_) ∧ ax k_ (.slice Ao127 t340.length co127) ∧ ax k_ (.slice Ao132 y344.length co132) ∧ ax k_ (.slice Ao134 t347.length co134) ∧ ax k_ (.slice (some ad339) x336000_2.length co123) ∧ some k_ ≠ (u336001 : Value).ownBlock ∧ some k_ ≠ (u336003 : Value).ownBlock ∧ some k_ ≠ (u336004 : Value).ownBlock ∧ k_ ≠ gb327 ∧ k_ ≠ gb328 ∧ k_ ≠ gb335) (.slice A339_0 (rd_L1 x336000_2 x37_2).length c339_0) (rd_L1 x336000_2 x37_2)) := ⟨by rw [← hq_]; exact (by (with_reducible repeat (first | apply Kd.V_alloc | apply Kd.V_drewN | apply Kd.V_drew)); exact HL339_0.out)⟩; have n1_ : Aside0 (Kd.R (Kd.int .i64) 2 w135 w.heap.size (fun k_ => (w.heap.size ≤ k_) ∧ ax k_ (.slice Ao132 y344.length co132) ∧ ax k_ (.slice Ao134 t347.length co134) ∧ some k_ ≠ (u336001 : Value).ownBlock ∧ some k_ ≠ (u336003 : Value).ownBlock ∧ some k_ ≠ (u336004 : Value).ownBlock) (.slice Ao127 t340.length co127) t340) := ⟨by rw [← hq_]; exact (uR (HO342.out))⟩; have n2_ : Aside0 (Kd.R (Kd.int .i64) 2 w135 w.heap.size (fun k_ => (w.heap.size ≤ k_) ∧ ax k_ (.slice Ao127 t340.length co127) ∧ ax k_ (.slice Ao134 t347.length co134) ∧ some k_ ≠ (u336001 : Value).ownBlock ∧ some k_ ≠ (u336003 : Value).ownBlock ∧ some k_ ≠ (u336004 : Value).ownBlock) (.slice Ao132 y344.length co132) y344) := ⟨by rw [← hq_]; exact (uR (HO346.out))⟩; have n3_ : Aside0 (Kd.R (Kd.int .i64) 2 w135 w.heap.size (fun k_ => (w.heap.size ≤ k_) ∧ ax k_ (.slice Ao127 t340.length co127) ∧ ax k_ (.slice Ao132 y344.length co132) ∧ some k_ ≠ (u336001 : Value).ownBlock ∧ some k_ ≠ (u336003 : Value).ownBlock ∧ some k_ ≠ (u336004 : Value).ownBlock) (.slice Ao134 t347.length co134) t347) := ⟨by rw [← hq_]; exact (uR (HO349.out))⟩; have n4_ : Aside0 (Kd.R (Kd.slice 2 (Kd.int .i64)) 22 w135 w.heap.size (fun k_ => (w.heap.size ≤ k_) ∧ ax k_ (.slice Ao127 t340.length co127) ∧ ax k_ (.slice Ao132 y344.length co132) ∧ ax k_ (.slice Ao134 t347.length co134) ∧ some k_ ≠ (u336001 : Value).ownBlock ∧ some k_ ≠ (u336003 : Value).ownBlock ∧ some k_ ≠ (u336004 : Value).ownBlock ∧ k_ ≠ gb327 ∧ k_ ≠ gb328 ∧ k_ ≠ gb335) (.slice (some ad339) x336000_2.length co123) x336000_2) := ⟨by rw [← hq_]; exact (uR HO_336000.out)⟩; have n5_ : Aside0 (Kd.R (Kd.int .i64) 2 w135 w.heap.size (fun k_ => (w.heap.size ≤ k_) ∧ ax k_ (.slice Ao127 t340.length co127) ∧ ax k_ (.slice Ao132 y344.length co132) ∧ ax k_ (.slice Ao134 t347.length co134) ∧ some k_ ≠ (u336003 : Value).ownBlock ∧ some k_ ≠ (u336004 : Value).ownBlock) u336001 x336001_2) := ⟨by rw [← hq_]; exact (uR (HO_336001.out))⟩; have n6_ : Aside0 (Kd.R (Kd.int .i64) 2 w135 w.heap.size (fun k_ => (w.heap.size ≤ k_) ∧ ax k_ (.slice Ao127 t340.length co127) ∧ ax k_ (.slice Ao132 y344.length co132) ∧ ax k_ (.slice Ao134 t347.length co134) ∧ some k_ ≠ (u336001 : Value).ownBlock ∧ some k_ ≠ (u336004 : Value).ownBlock) u336003 x336003_2) := ⟨by rw [← hq_]; exact (uR (HO_336003.out))⟩; have n7_ : Aside0 (Kd.R (Kd.int .i64) 2 w135 w.heap.size (fun k_ => (w.heap.size ≤ k_) ∧ ax k_ (.slice Ao127 t340.length co127) ∧ ax k_ (.slice Ao132 y344.length co132) ∧ ax k_ (.slice Ao134 t347.length co134) ∧ some k_ ≠ (u336001 : Value).ownBlock ∧ some k_ ≠ (u336003 : Value).ownBlock) u336004 x336004_2) := ⟨by rw [← hq_]; exact (uR (HO_336004.out))⟩; have n8_ : Aside0 (Kd.V (Kd.int .i64) 2 w135 w.heap.size (fun k_ => (w.heap.size ≤ k_) ∧ ax k_ (.slice Ao127 t340.length co127) ∧ ax k_ (.slice Ao132 y344.length co132) ∧ ax k_ (.slice Ao134 t347.length co134) ∧ ax k_ (.slice (some ad339) x336000_2.length co123) ∧ some k_ ≠ (u336001 : Value).ownBlock ∧ some k_ ≠ (u336003 : Value).ownBlock ∧ some k_ ≠ (u336004 : Value).ownBlock ∧ k_ ≠ gb327 ∧ k_ ≠ gb328 ∧ k_ ≠ gb335) u8 x8_2) := ⟨by rw [← hq_]; exact (by (with_reducible repeat (first | apply Kd.V_alloc | apply Kd.V_drewN | apply Kd.V_drew)); exact HO_8.out)⟩; have n9_ : Aside0 (w135.heap[gb327]? = some (.cells #[.int .i64 a0_0, .slice (some ad352) l0_1.length c0_1] 40 (0, 0))) := ⟨by rw [← hq_]; exact (uB BK327.out)⟩; have n10_ : Aside0 (w135.heap[gb328]? = some (.cells #[.slice none 0 0, .slice none 0 0, .int .i64 0, .slice none 0 0, .slice none 0 0] 95 (0, 0))) := ⟨by rw [← hq_]; exact (uB BK328.out)⟩; have n11_ : Aside0 (w135.heap[gb335]? = some (.cells #[.slice (some ad339) x336000_2.length co123, u336001, .int .i64 a0_0, u336003, u336004] 95 (0, 0))) := ⟨by rw [← hq_]; exact (uB BK335.out)⟩; have n12_ : Aside0 (Below w.heap.size w w135) := ⟨by rw [← hq_]; exact (uH HB.out)⟩; have n13_ : Aside0 (Kd.C (Kd.int .i64) w135 A339_0 (rd_L1 x336000_2 x37_2).length (rd_L1 x336000_2 x37_2)) := ⟨by rw [← hq_]; exact (by repeat (first | (with_reducible exact HR339_0.out) | (with_reducible refine Kd.C_alloc ?_ _) | (with_reducible refine Kd.C_drewN ?_ _) | (with_reducible refine Kd.C_drew ?_) | exact HR339_0.out))⟩; clear HL339_0 HO342 HO346 HO349 HO_336000 HO_336001 HO_336003 HO_336004 HO_8 BK327 BK328 BK335 HB HR339_0 hq_; have HL339_0 := n0_; have HO342 := n1_; have HO346 := n2_; have HO349 := n3_; have HO_336000 := n4_; have HO_336001 := n5_; have HO_336003 := n6_; have HO_336004 := n7_; have HO_8 := n8_; have BK327 := n9_; have BK328 := n10_; have BK335 := n11_; have HB := n12_; have HR339_0 := n13_; clear n0_ n1_ n2_ n3_ n4_ n5_ n6_ n7_ n8_ n9_ n10_ n11_ n12_ n13_)
       (try have hcuy137_0 : w135.cell? ⟨gb327, 0, none⟩ = some (.int .i64 a0_0) := (blk_cell BK327.out 0).trans rfl)
       (try have hcuy137_1 : w135.cell? ⟨gb327, 1, none⟩ = some (.slice (some ad352) l0_1.length c0_1) := (blk_cell BK327.out 1).trans rfl)
       replace HO_8 := zA (Kd.V_drew HO_8.out)
       replace HO_336000 := zA (Kd.R_drew HO_336000.out)
       replace HO_336001 := zA (Kd.R_drew HO_336001.out)
       replace HO_336003 := zA (Kd.R_drew HO_336003.out)
       replace HO_336004 := zA (Kd.R_drew HO_336004.out)
       replace HL339_0 := zA (Kd.V_drew HL339_0.out)
       replace HO342 := zA (Kd.R_drew HO342.out)
       replace HO346 := zA (Kd.R_drew HO346.out)
       replace HO349 := zA (Kd.R_drew HO349.out)
       replace BK327 := zA (blk_drew BK327.out)
       replace BK328 := zA (blk_drew BK328.out)
       replace BK335 := zA (blk_drew BK335.out)
       replace HR339_0 := zA (Kd.C_drew HR339_0.out)
       replace HB := zA (below_drew1 HB.out)
       obtain ⟨Ao139, co139, eo139⟩ := Kd.V_slice HO_8.out
       (first | subst eo139 | (injection eo139 with f1_ f2_ f3_; have f4_ := f1_.symm; have f5_ := f3_.symm; clear f1_ f2_ f3_; subst f4_; subst f5_))
       refine start_ (n := 12) (S := fun w' => w'.cell? ⟨gb335, 0, none⟩ = some (.slice (some ad339) x336000_2.length co123) ∧ w'.cell? ⟨gb335, 1, none⟩ = some (u336001) ∧ w'.cell? ⟨gb335, 2, none⟩ = some (.int .i64 a0_0) ∧ w'.cell? ⟨gb335, 3, none⟩ = some (u336003) ∧ w'.cell? ⟨gb335, 4, none⟩ = some (u336004)) (ds := [11]) #[false, false, false, false, false, false, false, false, false, false, false, false] (by kernel_rfl) rfl rfl ⟨bcu BK335 0, bcu BK335 1, bcu BK335 2, bcu BK335 3, bcu BK335 4⟩ (fun hHeld => ?_); refine with_tabW impl_Moments_upTo.tab16 impl_Moments_upTo.bits16 (fun HT_ HW_ => ?_)
       generalize w135.drew = w138 at HO_8 HO_336000 HO_336001 HO_336003 HO_336004 HL339_0 HO342 HO346 HO349 BK327 BK328 BK335 HR339_0 HB hHeld ⊢
       refine pu_ 0 76 (bl 12 1) HT_ ?_
       refine pu_ 2 78 (bl 12 5) HT_ ?_
       refine pu_ 3 79 (bl 12 13) HT_ ?_
       refine pu_ 4 80 (bl 12 29) HT_ ?_
       refine pu_ 5 81 (bl 12 61) HT_ ?_
       refine pu_ 6 82 (bl 12 125) HT_ ?_
       refine ta_ 1 77 (bl 12 127) HT_ HW_ hHeld ?_
       refine on_ 7 (some 83) (bl 12 255) HT_ (fun K hK => ?_)
       refine gS Try.func130 #[.int .i64 t338, .int .i64 t351, .int .i64 t354, .slice A339_0 (rd_L1 x336000_2 x37_2).length c339_0, .slice Ao139 x8_2.length co139] ?_
       with_reducible refine (impl_field_next.calls k2 t338 t351 t354 _ _ (rd_L1 x336000_2 x37_2) _ _ x8_2 t382 _ ?side1 ?side2 ?side3 ?side4 A115.out).mono ?_
       (case side1 => repeat (first | exact (by repeat (first | (with_reducible exact HR339_0.out) | (with_reducible refine Kd.C_alloc ?_ _) | (with_reducible refine Kd.C_drewN ?_ _) | (with_reducible refine Kd.C_drew ?_) | exact HR339_0.out)) | (with_reducible refine Kd.C_alloc ?_ _) | (with_reducible refine Kd.C_drewN ?_ _) | (with_reducible refine Kd.C_drew ?_)))
       (case side2 => exact HC339_0.out)
       (case side3 => exact uC ((Kd.V_reads' HO_8.out).2.2))
       (case side4 => exact (Kd.V_reads' HO_8.out).2.1)
       rintro e w140 ⟨v383, rfl, ho0, hb⟩
       refine ⟨_, rfl, ?_⟩
       replace HO_8 := zA (Kd.V_elder' (by (with_reducible repeat (first | apply Kd.V_alloc | apply Kd.V_drewN | apply Kd.V_drew)); exact HO_8.out) (Kd.R_base ho0) hb)
       replace HO_336000 := zA (Kd.R_elder' (uR HO_336000.out) (Kd.R_base ho0) hb)
       replace HL339_0 := zA (Kd.V_elder' (by (with_reducible repeat (first | apply Kd.V_alloc | apply Kd.V_drewN | apply Kd.V_drew)); exact HL339_0.out) (Kd.R_base ho0) hb)
       have HO384 := zA (Kd.R_lower (Kd.R_new' (Kd.R_new' (Kd.R_new' (Kd.R_new' (Kd.R_new' (Kd.R_new' (Kd.R_newM (M := fun k_ => (w.heap.size ≤ k_)) ho0 (below_size (uH HB.out)) (fun k_ h_ => h_)) (Kd.R_lt (uR HO_336001.out))) (Kd.R_lt (uR HO_336003.out))) (Kd.R_lt (uR HO_336004.out))) (Kd.R_lt (uR HO342.out))) (Kd.R_lt (uR HO346.out))) (Kd.R_lt (uR HO349.out))) (below_size (uH HB.out)))
       replace HO_336001 := zA (Kd.R_elder' (uR HO_336001.out) (Kd.R_base ho0) hb)
       replace HO_336003 := zA (Kd.R_elder' (uR HO_336003.out) (Kd.R_base ho0) hb)
       replace HO_336004 := zA (Kd.R_elder' (uR HO_336004.out) (Kd.R_base ho0) hb)
       replace HO342 := zA (Kd.R_elder' (uR HO342.out) (Kd.R_base ho0) hb)
       replace HO346 := zA (Kd.R_elder' (uR HO346.out) (Kd.R_base ho0) hb)
       replace HO349 := zA (Kd.R_elder' (uR HO349.out) (Kd.R_base ho0) hb)
       replace BK327 := xB BK327 hb
       replace BK328 := xB BK328 hb
       replace BK335 := xB BK335 hb
       replace HR339_0 := zA (Kd.C_below (by repeat (first | (with_reducible exact HR339_0.out) | (with_reducible refine Kd.C_alloc ?_ _) | (with_reducible refine Kd.C_drewN ?_ _) | (with_reducible refine Kd.C_drew ?_) | exact HR339_0.out)) hb)
       replace HB := xH HB hb
       (try clear hb); (try clear hb2); (try clear hk); (try clear hi); (try clear ho0)
       obtain ⟨Ao141, co141, eo141⟩ := Kd.R_slice HO384.out
       (first | subst eo141 | (injection eo141 with f1_ f2_ f3_; have f4_ := f1_.symm; have f5_ := f3_.symm; clear f1_ f2_ f3_; subst f4_; subst f5_))
       refine hK.out _ _ ⟨bcu BK335 0, bcu BK335 1, bcu BK335 2, bcu BK335 3, bcu BK335 4⟩ (fun hHeld => ?_)
       clear hK K
       refine no_ 83 ?_
       refine on_ 8 (some 84) (bl 12 511) HT_ (fun K hK => ?_)
       refine Kd.R_lit_step (Kd.slice 2 (Kd.int .i64)) w.heap.size 22 ?hg (N := 84) ?hd (xs := ([t382] : List (List Int))) (inner := [.slice Ao141 t382.length co141]) (ok := (fun k_ => (w.heap.size ≤ k_) ∧ ax k_ (.slice (some ad339) x336000_2.length co123) ∧ some k_ ≠ (u336001 : Value).ownBlock ∧ some k_ ≠ (u336003 : Value).ownBlock ∧ some k_ ≠ (u336004 : Value).ownBlock ∧ ax k_ (.slice Ao127 t340.length co127) ∧ ax k_ (.slice Ao132 y344.length co132) ∧ ax k_ (.slice Ao134 t347.length co134) ∧ k_ ≠ gb327 ∧ k_ ≠ gb328 ∧ k_ ≠ gb335)) (okp := (fun k_ => (w.heap.size ≤ k_) ∧ ax k_ (.slice (some ad339) x336000_2.length co123) ∧ some k_ ≠ (u336001 : Value).ownBlock ∧ some k_ ≠ (u336003 : Value).ownBlock ∧ some k_ ≠ (u336004 : Value).ownBlock ∧ ax k_ (.slice Ao127 t340.length co127) ∧ ax k_ (.slice Ao132 y344.length co132) ∧ ax k_ (.slice Ao134 t347.length co134) ∧ k_ ≠ gb327 ∧ k_ ≠ gb328 ∧ k_ ≠ gb335)) ?hr ?hp (fun _ hk => hk) ((show ∀ k_, w140.heap.size ≤ k_ → (fun k_ => (w.heap.size ≤ k_) ∧ ax k_ (.slice (some ad339) x336000_2.length co123) ∧ some k_ ≠ (u336001 : Value).ownBlock ∧ some k_ ≠ (u336003 : Value).ownBlock ∧ some k_ ≠ (u336004 : Value).ownBlock ∧ ax k_ (.slice Ao127 t340.length co127) ∧ ax k_ (.slice Ao132 y344.length co132) ∧ ax k_ (.slice Ao134 t347.length co134) ∧ k_ ≠ gb327 ∧ k_ ≠ gb328 ∧ k_ ≠ gb335) k_ from fun k_ hk => ⟨(Nat.le_trans (below_size (uH HB.out)) hk), Kd.fresh' (Kd.R_lt (uR HO_336000.out)) k_ hk, Kd.fresh' (Kd.R_lt (uR HO_336001.out)) k_ hk, Kd.fresh' (Kd.R_lt (uR HO_336003.out)) k_ hk, Kd.fresh' (Kd.R_lt (uR HO_336004.out)) k_ hk, Kd.fresh' (Kd.R_lt (uR HO342.out)) k_ hk, Kd.fresh' (Kd.R_lt (uR HO346.out)) k_ hk, Kd.fresh' (Kd.R_lt (uR HO349.out)) k_ hk, Kd.freshB (g := gb327) (o := .cells #[.int .i64 a0_0, .slice (some ad352) l0_1.length c0_1] 40 (0, 0)) (uB BK327.out) k_ hk, Kd.freshB (g := gb328) (o := .cells #[.slice none 0 0, .slice none 0 0, .int .i64 0, .slice none 0 0, .slice none 0 0] 95 (0, 0)) (uB BK328.out) k_ hk, Kd.freshB (g := gb335) (o := .cells #[.slice (some ad339) x336000_2.length co123, u336001, .int .i64 a0_0, u336003, u336004] 95 (0, 0)) (uB BK335.out) k_ hk⟩) _ (Nat.le_refl _)) (Below.refl _ _) (below_size (uH HB.out)) (by simp) ?_; (case hd => rfl); (case hg => rfl); (case hr => first | (go_simp; done) | (go_simp; rfl)); (case hp => exact (Reps.one (show Kd.M (Kd.slice 2 (Kd.int .i64)) _ _ _ t382 [.slice Ao141 t382.length co141] from ⟨_, rfl, (Kd.R_mono (ok' := (fun k_ => (w.heap.size ≤ k_) ∧ ax k_ (.slice (some ad339) x336000_2.length co123) ∧ some k_ ≠ (u336001 : Value).ownBlock ∧ some k_ ≠ (u336003 : Value).ownBlock ∧ some k_ ≠ (u336004 : Value).ownBlock ∧ ax k_ (.slice Ao127 t340.length co127) ∧ ax k_ (.slice Ao132 y344.length co132) ∧ ax k_ (.slice Ao134 t347.length co134) ∧ k_ ≠ gb327 ∧ k_ ≠ gb328 ∧ k_ ≠ gb335)) (Kd.R_types (Kd.R_types (Kd.R_types (Kd.R_apart' (HO384.out) (Kd.R_typed HO_336000.out) (by decide)) BK327.out (by decide)) BK328.out (by decide)) BK335.out (by decide)) (fun k_ hk => ⟨hk.1.1.1.1.1.1.1.1.1.1.1, ⟨hk.1.1.1.2, ⟨hk.1.1.1.1.1.1.1.1.1.2, ⟨hk.1.1.1.1.1.1.1.1.2, ⟨hk.1.1.1.1.1.1.1.2, ⟨hk.1.1.1.1.1.1.2, ⟨hk.1.1.1.1.1.2, ⟨hk.1.1.1.1.2, ⟨hk.1.1.2, ⟨hk.1.2, hk.2⟩⟩⟩⟩⟩⟩⟩⟩⟩⟩))⟩) (Reps.none _ _)))
       intro v386 w142 ho143 hb hg_ hnew_
       replace hb := (Below.refl _ _).grown hg_ (Nat.le_refl _) (fun k e => by simp at e); have hq_ := new_le hnew_; clear hg_ hnew_
       (first | rw [← Ny385.out] at ho143 | (simp only [Int.reduceToNat] at ho143; rw [← Ny385.out] at ho143))
       replace HO_8 := zA (Kd.V_elder' (by (with_reducible repeat (first | apply Kd.V_alloc | apply Kd.V_drewN | apply Kd.V_drew)); exact HO_8.out) hq_ hb)
       replace HO_336000 := zA (Kd.R_elder' (uR HO_336000.out) hq_ hb)
       replace HO_336001 := xR HO_336001 hb
       replace HO_336003 := xR HO_336003 hb
       replace HO_336004 := xR HO_336004 hb
       replace HL339_0 := zA (Kd.V_elder' (by (with_reducible repeat (first | apply Kd.V_alloc | apply Kd.V_drewN | apply Kd.V_drew)); exact HL339_0.out) hq_ hb)
       replace HO342 := xR HO342 hb
       replace HO346 := xR HO346 hb
       replace HO349 := xR HO349 hb
       have HO387 := zA (ho143)
       replace BK327 := xB BK327 hb
       replace BK328 := xB BK328 hb
       replace BK335 := xB BK335 hb
       replace HR339_0 := zA (Kd.C_below (by repeat (first | (with_reducible exact HR339_0.out) | (with_reducible refine Kd.C_alloc ?_ _) | (with_reducible refine Kd.C_drewN ?_ _) | (with_reducible refine Kd.C_drew ?_) | exact HR339_0.out)) hb)
       replace HB := xH HB hb
       clear HO384
       (try clear hq_); clear hb ho143
       obtain ⟨Ao145, co145, eo145⟩ := Kd.R_slice HO387.out
       (first | subst eo145 | (injection eo145 with f1_ f2_ f3_; have f4_ := f1_.symm; have f5_ := f3_.symm; clear f1_ f2_ f3_; subst f4_; subst f5_))
       refine hK.out _ _ ⟨bcu BK335 0, bcu BK335 1, bcu BK335 2, bcu BK335 3, bcu BK335 4⟩ (fun hHeld => ?_)
       clear hK K
       refine no_ 84 ?_
       refine on_ 9 (some 85) (bl 12 1023) HT_ (fun K hK => ?_)
       refine Kd.R_append_rows_step (Kd.slice 2 (Kd.int .i64)) (w0 := w) w.heap.size (by rfl) (.tmp 77) (.tmp 84) 87 22 (.slice none 0 0) 24 rfl Try.underlying87 info22 rfl (by decide) (by omega) (.slice (some ad339) x336000_2.length co123) x336000_2 y385 _ _ _ (fun k_ => (w.heap.size ≤ k_) ∧ some k_ ≠ (u336001 : Value).ownBlock ∧ some k_ ≠ (u336003 : Value).ownBlock ∧ some k_ ≠ (u336004 : Value).ownBlock ∧ ax k_ (.slice Ao127 t340.length co127) ∧ ax k_ (.slice Ao132 y344.length co132) ∧ ax k_ (.slice Ao134 t347.length co134) ∧ k_ ≠ gb327 ∧ k_ ≠ gb328 ∧ k_ ≠ gb335) (fun k_ => ((fun k_ => (w.heap.size ≤ k_) ∧ some k_ ≠ (u336001 : Value).ownBlock ∧ some k_ ≠ (u336003 : Value).ownBlock ∧ some k_ ≠ (u336004 : Value).ownBlock ∧ ax k_ (.slice Ao127 t340.length co127) ∧ ax k_ (.slice Ao132 y344.length co132) ∧ ax k_ (.slice Ao134 t347.length co134) ∧ k_ ≠ gb327 ∧ k_ ≠ gb328 ∧ k_ ≠ gb335)) k_ ∧ ax k_ (.slice (some ad339) x336000_2.length co123)) rfl rfl ?aO ?aR (fun _ _ hk => hk) (fun _ hk => hk) ?aF ?aB ?aS ?aL ?_
       (case aR => exact (by skip; exact R_rowsM (Kd.R_mono (ok' := (fun k_ => ((fun k_ => (w.heap.size ≤ k_) ∧ some k_ ≠ (u336001 : Value).ownBlock ∧ some k_ ≠ (u336003 : Value).ownBlock ∧ some k_ ≠ (u336004 : Value).ownBlock ∧ ax k_ (.slice Ao127 t340.length co127) ∧ ax k_ (.slice Ao132 y344.length co132) ∧ ax k_ (.slice Ao134 t347.length co134) ∧ k_ ≠ gb327 ∧ k_ ≠ gb328 ∧ k_ ≠ gb335)) k_ ∧ ax k_ (.slice (some ad339) x336000_2.length co123))) (HO387.out) (fun k_ hk => ⟨⟨hk.1, ⟨hk.2.2.1, ⟨hk.2.2.2.1, ⟨hk.2.2.2.2.1, ⟨hk.2.2.2.2.2.1, ⟨hk.2.2.2.2.2.2.1, ⟨hk.2.2.2.2.2.2.2.1, ⟨hk.2.2.2.2.2.2.2.2.1, ⟨hk.2.2.2.2.2.2.2.2.2.1, hk.2.2.2.2.2.2.2.2.2.2⟩⟩⟩⟩⟩⟩⟩⟩⟩, hk.2.1⟩))))
       (case aB => exact (uH HB.out))
       (case aF => exact (fun k_ hk => ⟨(Nat.le_trans (below_size (uH HB.out)) hk), Kd.fresh' (Kd.R_lt (uR HO_336001.out)) k_ hk, Kd.fresh' (Kd.R_lt (uR HO_336003.out)) k_ hk, Kd.fresh' (Kd.R_lt (uR HO_336004.out)) k_ hk, Kd.fresh' (Kd.R_lt (uR HO342.out)) k_ hk, Kd.fresh' (Kd.R_lt (uR HO346.out)) k_ hk, Kd.fresh' (Kd.R_lt (uR HO349.out)) k_ hk, Kd.freshB (g := gb327) (o := .cells #[.int .i64 a0_0, .slice (some ad352) l0_1.length c0_1] 40 (0, 0)) (uB BK327.out) k_ hk, Kd.freshB (g := gb328) (o := .cells #[.slice none 0 0, .slice none 0 0, .int .i64 0, .slice none 0 0, .slice none 0 0] 95 (0, 0)) (uB BK328.out) k_ hk, Kd.freshB (g := gb335) (o := .cells #[.slice (some ad339) x336000_2.length co123, u336001, .int .i64 a0_0, u336003, u336004] 95 (0, 0)) (uB BK335.out) k_ hk⟩))
       (case aO => exact (uR (Kd.R_mono HO_336000.out (fun _ hk => ⟨hk.1.1.1, ⟨hk.1.1.2.2.2.2.1, ⟨hk.1.1.2.2.2.2.2.1, ⟨hk.1.1.2.2.2.2.2.2.1, ⟨hk.1.1.2.1, ⟨hk.1.1.2.2.1, ⟨hk.1.1.2.2.2.1, ⟨hk.1.1.2.2.2.2.2.2.2.1, ⟨hk.1.1.2.2.2.2.2.2.2.2.1, hk.1.1.2.2.2.2.2.2.2.2.2⟩⟩⟩⟩⟩⟩⟩⟩⟩))))
       (case aS => exact (below_size (uH HB.out)))
       (case aL => have := LMc116.out; omega)
       intro v389 w144 ho hb hg hat
       rw [← Ny388.out] at ho
       replace HO_8 := zA (Kd.V_afterv (ok := (fun k_ => (w.heap.size ≤ k_) ∧ some k_ ≠ (u336001 : Value).ownBlock ∧ some k_ ≠ (u336003 : Value).ownBlock ∧ some k_ ≠ (u336004 : Value).ownBlock ∧ ax k_ (.slice Ao127 t340.length co127) ∧ ax k_ (.slice Ao132 y344.length co132) ∧ ax k_ (.slice Ao134 t347.length co134) ∧ ax k_ (.slice Ao145 y385.length co145) ∧ k_ ≠ gb327 ∧ k_ ≠ gb328 ∧ k_ ≠ gb335)) (by (with_reducible repeat (first | apply Kd.V_alloc | apply Kd.V_drewN | apply Kd.V_drew)); exact Kd.V_mono HO_8.out (fun _ hk => ⟨⟨hk.1.1.1, ⟨hk.1.1.2.2.2.2.2.1, ⟨hk.1.1.2.2.2.2.2.2.1, ⟨hk.1.1.2.2.2.2.2.2.2.1, ⟨hk.1.1.2.1, ⟨hk.1.1.2.2.1, ⟨hk.1.1.2.2.2.1, ⟨hk.2, ⟨hk.1.1.2.2.2.2.2.2.2.2.1, ⟨hk.1.1.2.2.2.2.2.2.2.2.2.1, hk.1.1.2.2.2.2.2.2.2.2.2.2⟩⟩⟩⟩⟩⟩⟩⟩⟩⟩, hk.1.1.2.2.2.2.1⟩)) hg hat)
       replace HO_336001 := zA (Kd.R_over' (uR HO_336001.out) (Kd.R_typed (uR HO_336000.out)) (by decide) hg)
       replace HO_336003 := zA (Kd.R_over' (uR HO_336003.out) (Kd.R_typed (uR HO_336000.out)) (by decide) hg)
       replace HO_336004 := zA (Kd.R_over' (uR HO_336004.out) (Kd.R_typed (uR HO_336000.out)) (by decide) hg)
       replace BK327 := zA (blk_grown (g := gb327) (o := .cells #[.int .i64 a0_0, .slice (some ad352) l0_1.length c0_1] 40 (0, 0)) (uB BK327.out) hg (Kd.R_ne HO_336000.out BK327.out (by decide)))
       replace BK328 := zA (blk_grown (g := gb328) (o := .cells #[.slice none 0 0, .slice none 0 0, .int .i64 0, .slice none 0 0, .slice none 0 0] 95 (0, 0)) (uB BK328.out) hg (Kd.R_ne HO_336000.out BK328.out (by decide)))
       replace BK335 := zA (blk_grown (g := gb335) (o := .cells #[.slice (some ad339) x336000_2.length co123, u336001, .int .i64 a0_0, u336003, u336004] 95 (0, 0)) (uB BK335.out) hg (Kd.R_ne HO_336000.out BK335.out (by decide)))
       replace HL339_0 := zA (Kd.V_afterv (ok := (fun k_ => (w.heap.size ≤ k_) ∧ some k_ ≠ (u336001 : Value).ownBlock ∧ some k_ ≠ (u336003 : Value).ownBlock ∧ some k_ ≠ (u336004 : Value).ownBlock ∧ ax k_ (.slice Ao127 t340.length co127) ∧ ax k_ (.slice Ao132 y344.length co132) ∧ ax k_ (.slice Ao134 t347.length co134) ∧ ax k_ (.slice Ao145 y385.length co145) ∧ k_ ≠ gb327 ∧ k_ ≠ gb328 ∧ k_ ≠ gb335)) (by (with_reducible repeat (first | apply Kd.V_alloc | apply Kd.V_drewN | apply Kd.V_drew)); exact Kd.V_mono HL339_0.out (fun _ hk => ⟨⟨hk.1.1.1, ⟨hk.1.1.2.2.2.2.2.1, ⟨hk.1.1.2.2.2.2.2.2.1, ⟨hk.1.1.2.2.2.2.2.2.2.1, ⟨hk.1.1.2.1, ⟨hk.1.1.2.2.1, ⟨hk.1.1.2.2.2.1, ⟨hk.2, ⟨hk.1.1.2.2.2.2.2.2.2.2.1, ⟨hk.1.1.2.2.2.2.2.2.2.2.2.1, hk.1.1.2.2.2.2.2.2.2.2.2.2⟩⟩⟩⟩⟩⟩⟩⟩⟩⟩, hk.1.1.2.2.2.2.1⟩)) hg hat)
       replace HO342 := zA (Kd.R_over' (uR HO342.out) (Kd.R_typed (uR HO_336000.out)) (by decide) hg)
       replace HO346 := zA (Kd.R_over' (uR HO346.out) (Kd.R_typed (uR HO_336000.out)) (by decide) hg)
       replace HO349 := zA (Kd.R_over' (uR HO349.out) (Kd.R_typed (uR HO_336000.out)) (by decide) hg)
       replace HO387 := zA (R_afterv (ok := (fun k_ => (w.heap.size ≤ k_) ∧ some k_ ≠ (u336001 : Value).ownBlock ∧ some k_ ≠ (u336003 : Value).ownBlock ∧ some k_ ≠ (u336004 : Value).ownBlock ∧ ax k_ (.slice Ao127 t340.length co127) ∧ ax k_ (.slice Ao132 y344.length co132) ∧ ax k_ (.slice Ao134 t347.length co134) ∧ k_ ≠ gb327 ∧ k_ ≠ gb328 ∧ k_ ≠ gb335)) (uR (Kd.R_mono HO387.out (fun _ hk => ⟨⟨hk.1, ⟨hk.2.2.1, ⟨hk.2.2.2.1, ⟨hk.2.2.2.2.1, ⟨hk.2.2.2.2.2.1, ⟨hk.2.2.2.2.2.2.1, ⟨hk.2.2.2.2.2.2.2.1, ⟨hk.2.2.2.2.2.2.2.2.1, ⟨hk.2.2.2.2.2.2.2.2.2.1, hk.2.2.2.2.2.2.2.2.2.2⟩⟩⟩⟩⟩⟩⟩⟩⟩, hk.2.1⟩))) hg hat)
       replace HB := zA (hb)
       have HO390 := zA (ho)
       clear HO_336000
       clear ho hb hg hat
       obtain ⟨Ao146, co146, eo146⟩ := Kd.R_slice HO390.out
       (first | subst eo146 | (injection eo146 with f1_ f2_ f3_; have f4_ := f1_.symm; have f5_ := f3_.symm; clear f1_ f2_ f3_; subst f4_; subst f5_))
       refine hK.out _ _ ⟨bcu BK335 0, bcu BK335 1, bcu BK335 2, bcu BK335 3, bcu BK335 4⟩ (fun hHeld => ?_)
       clear hK K
       refine no_ 85 ?_
       refine pu_ 10 86 (bl 12 2047) HT_ ?_
       refine last_ (i := 11) (N := none) (bl 12 4095) rfl rfl (one_of HT_.out (by kernel_rfl)) (by decide) (fun K hK => ?_)
       have hs147 : w144.cell? ⟨gb335, 0, none⟩ = some (.slice (some ad339) x336000_2.length co123) := (blk_cell BK335.out 0).trans rfl
       have hfs147 := bf BK335 0
       have hns147_0 := NB327_335.out; have hns147_1 := NB328_335.out; have hms147_0 := NB335_327.out; have hms147_1 := NB335_328.out
       refine skip_ (w1 := ?_) (by rfl) rfl ?_ ?_
       rotate_left
       ·go_simp
        rfl
       refine hK.out _ _ ?_
       clear hK K
       refine done_ (done_of HT_.out (by kernel_rfl)) ?_
       have hcz148_0 := bc BK335 0
       have hcz148_1 := bc BK335 1
       have hcz148_2 := bc BK335 2
       have hcz148_3 := bc BK335 3
       have hcz148_4 := bc BK335 4
       have hfz148_0 := bf BK335 0
       have hfz148_1 := bf BK335 1
       have hfz148_2 := bf BK335 2
       have hfz148_3 := bf BK335 3
       have hfz148_4 := bf BK335 4
       try go_wp2_with (first | ((with_reducible refine gate_dst (N := 90) rfl ?_); refine Kd.R_lit (Kd.int .i64) _ 2 ?hg (N := 90) ?hd (xs := ([t343] : List Int)) (inner := [.int .i64 t343]) (ok := fun _ => True) (okp := fun _ => True) ?hr ?hp (fun _ hk => hk) trivial (Below.refl _ _) (Nat.le_refl _) (by simp) ?_; (case hd => rfl); (case hg => rfl); (case hr => first | (go_simp; done) | (go_simp; rfl)); (case hp => exact (Reps.one (show Kd.M (Kd.int .i64) _ _ _ t343 [.int .i64 t343] from rfl) (Reps.none _ _))); intro v392 w149 ho150 hb hg_ hnew_; clear hg_ hnew_; (first | rw [← Ny391.out] at ho150 | (simp only [Int.reduceToNat] at ho150; rw [← Ny391.out] at ho150)); replace HO_8 := zA (Kd.V_elder' (by (with_reducible repeat (first | apply Kd.V_alloc | apply Kd.V_drewN | apply Kd.V_drew)); exact (Kd.V_mono (Kd.V_far (p := ⟨gb335, 0, none⟩) (Kd.V_mono HO_8.out (fun k_ hk => (⟨hk, hk.1.2.2.2.2.2.2.2.2.2.2⟩ : _ ∧ k_ ≠ gb335))) (fun _ hk => hk.2) (.slice Ao146 y388.length co146)) (fun _ h_ => h_.1))) (Kd.R_base ho150) hb); replace HL339_0 := zA (Kd.V_elder' (by (with_reducible repeat (first | apply Kd.V_alloc | apply Kd.V_drewN | apply Kd.V_drew)); exact (Kd.V_mono (Kd.V_far (p := ⟨gb335, 0, none⟩) (Kd.V_mono HL339_0.out (fun k_ hk => (⟨hk, hk.1.2.2.2.2.2.2.2.2.2.2⟩ : _ ∧ k_ ≠ gb335))) (fun _ hk => hk.2) (.slice Ao146 y388.length co146)) (fun _ h_ => h_.1))) (Kd.R_base ho150) hb); replace HO387 := zA (Kd.R_elder' (uR ((Kd.R_mono (Kd.R_far (p := ⟨gb335, 0, none⟩) (Kd.R_mono HO387.out (fun k_ hk => (⟨hk, hk.1.2.2.2.2.2.2.2.2.2⟩ : _ ∧ k_ ≠ gb335))) (fun _ hk => hk.2) (.slice Ao146 y388.length co146)) (fun _ h_ => h_.1)))) (Kd.R_base ho150) hb); replace HO390 := zA (Kd.R_elder' (uR ((Kd.R_mono (Kd.R_far (p := ⟨gb335, 0, none⟩) (Kd.R_mono HO390.out (fun k_ hk => (⟨hk, hk.2.2.2.2.2.2.2.2.2⟩ : _ ∧ k_ ≠ gb335))) (fun _ hk => hk.2) (.slice Ao146 y388.length co146)) (fun _ h_ => h_.1)))) (Kd.R_base ho150) hb); have HO393 := zA (Kd.R_lower (Kd.R_new' (Kd.R_new' (Kd.R_new' (Kd.R_new' (Kd.R_new' (Kd.R_new' (Kd.R_newM (M := fun k_ => (w.heap.size ≤ k_)) ho150 (below_size (uH HB.out)) (fun k_ h_ => h_)) (Kd.R_lt (uR ((Kd.R_mono (Kd.R_far (p := ⟨gb335, 0, none⟩) (Kd.R_types HO_336001.out BK335.out (by decide)) (fun _ hk => hk.2) (.slice Ao146 y388.length co146)) (fun _ h_ => h_.1)))))) (Kd.R_lt (uR ((Kd.R_mono (Kd.R_far (p := ⟨gb335, 0, none⟩) (Kd.R_types HO_336003.out BK335.out (by decide)) (fun _ hk => hk.2) (.slice Ao146 y388.length co146)) (fun _ h_ => h_.1)))))) (Kd.R_lt (uR ((Kd.R_mono (Kd.R_far (p := ⟨gb335, 0, none⟩) (Kd.R_types HO_336004.out BK335.out (by decide)) (fun _ hk => hk.2) (.slice Ao146 y388.length co146)) (fun _ h_ => h_.1)))))) (Kd.R_lt (uR ((Kd.R_mono (Kd.R_far (p := ⟨gb335, 0, none⟩) (Kd.R_types HO342.out BK335.out (by decide)) (fun _ hk => hk.2) (.slice Ao146 y388.length co146)) (fun _ h_ => h_.1)))))) (Kd.R_lt (uR ((Kd.R_mono (Kd.R_far (p := ⟨gb335, 0, none⟩) (Kd.R_types HO346.out BK335.out (by decide)) (fun _ hk => hk.2) (.slice Ao146 y388.length co146)) (fun _ h_ => h_.1)))))) (Kd.R_lt (uR ((Kd.R_mono (Kd.R_far (p := ⟨gb335, 0, none⟩) (Kd.R_types HO349.out BK335.out (by decide)) (fun _ hk => hk.2) (.slice Ao146 y388.length co146)) (fun _ h_ => h_.1)))))) (below_size (uH HB.out))); replace HO_336001 := zA (Kd.R_elder' (uR ((Kd.R_mono (Kd.R_far (p := ⟨gb335, 0, none⟩) (Kd.R_types HO_336001.out BK335.out (by decide)) (fun _ hk => hk.2) (.slice Ao146 y388.length co146)) (fun _ h_ => h_.1)))) (Kd.R_base ho150) hb); replace HO_336003 := zA (Kd.R_elder' (uR ((Kd.R_mono (Kd.R_far (p := ⟨gb335, 0, none⟩) (Kd.R_types HO_336003.out BK335.out (by decide)) (fun _ hk => hk.2) (.slice Ao146 y388.length co146)) (fun _ h_ => h_.1)))) (Kd.R_base ho150) hb); replace HO_336004 := zA (Kd.R_elder' (uR ((Kd.R_mono (Kd.R_far (p := ⟨gb335, 0, none⟩) (Kd.R_types HO_336004.out BK335.out (by decide)) (fun _ hk => hk.2) (.slice Ao146 y388.length co146)) (fun _ h_ => h_.1)))) (Kd.R_base ho150) hb); replace HO342 := zA (Kd.R_elder' (uR ((Kd.R_mono (Kd.R_far (p := ⟨gb335, 0, none⟩) (Kd.R_types HO342.out BK335.out (by decide)) (fun _ hk => hk.2) (.slice Ao146 y388.length co146)) (fun _ h_ => h_.1)))) (Kd.R_base ho150) hb); replace HO346 := zA (Kd.R_elder' (uR ((Kd.R_mono (Kd.R_far (p := ⟨gb335, 0, none⟩) (Kd.R_types HO346.out BK335.out (by decide)) (fun _ hk => hk.2) (.slice Ao146 y388.length co146)) (fun _ h_ => h_.1)))) (Kd.R_base ho150) hb); replace HO349 := zA (Kd.R_elder' (uR ((Kd.R_mono (Kd.R_far (p := ⟨gb335, 0, none⟩) (Kd.R_types HO349.out BK335.out (by decide)) (fun _ hk => hk.2) (.slice Ao146 y388.length co146)) (fun _ h_ => h_.1)))) (Kd.R_base ho150) hb); replace BK327 := zA (blk_below (g := gb327) (o := .cells #[.int .i64 a0_0, .slice (some ad352) l0_1.length c0_1] 40 (0, 0)) (by (repeat refine up1 ?_); refine blk_far ?_ NB327_335.out _; (repeat refine up1 ?_); exact BK327.out) hb); replace BK328 := zA (blk_below (g := gb328) (o := .cells #[.slice none 0 0, .slice none 0 0, .int .i64 0, .slice none 0 0, .slice none 0 0] 95 (0, 0)) (by (repeat refine up1 ?_); refine blk_far ?_ NB328_335.out _; (repeat refine up1 ?_); exact BK328.out) hb); replace BK335 := zA (blk_below (g := gb335) (o := .cells #[.slice Ao146 y388.length co146, u336001, .int .i64 a0_0, u336003, u336004] 95 (0, 0)) (by (repeat refine up1 ?_); refine blk_put (cs := #[.slice (some ad339) x336000_2.length co123, u336001, .int .i64 a0_0, u336003, u336004]) ?_ 0 _ rfl; (repeat refine up1 ?_); exact BK335.out) hb); replace HB := xH HB hb; clear hb ho150; obtain ⟨Ao152, co152, eo152⟩ := Kd.R_slice HO393.out; subst eo152) | ((with_reducible refine gate_builtin (b := .append) (xs := #[.tmp 88, .tmp 90]) rfl ?_); at_builtin; refine Kd.R_append_rows (Kd.int .i64) (w0 := w) w.heap.size rfl (.tmp 88) (.tmp 90) 22 2 (.int .i64 0) 8 rfl Try.underlying22 info2 rfl (by decide) (by omega) u336001 x336001_2 y391 _ _ _ (fun k_ => (w.heap.size ≤ k_) ∧ some k_ ≠ (u336003 : Value).ownBlock ∧ some k_ ≠ (u336004 : Value).ownBlock ∧ ax k_ (.slice Ao127 t340.length co127) ∧ ax k_ (.slice Ao132 y344.length co132) ∧ ax k_ (.slice Ao134 t347.length co134) ∧ ax k_ (.slice Ao152 y391.length co152)) (fun _ => False) rfl rfl ?aO ?aR (fun _ _ h => h) (fun _ h => h.elim) ?aF ?aB ?aS ?aL ?_; (case aR => exact uC ((Kd.R_reads' HO393.out).2.2)); (case aB => exact (uH HB.out)); (case aF => exact (fun k_ hk => ⟨(Nat.le_trans (below_size (uH HB.out)) hk), Kd.fresh' (Kd.R_lt (uR HO_336003.out)) k_ hk, Kd.fresh' (Kd.R_lt (uR HO_336004.out)) k_ hk, Kd.fresh' (Kd.R_lt (uR HO342.out)) k_ hk, Kd.fresh' (Kd.R_lt (uR HO346.out)) k_ hk, Kd.fresh' (Kd.R_lt (uR HO349.out)) k_ hk, Kd.fresh' (Kd.R_lt (uR HO393.out)) k_ hk⟩)); (case aO => exact (uR (Kd.R_mono HO_336001.out (fun _ hk => ⟨hk.1.1.1, ⟨hk.1.1.2.2.2.2.1, ⟨hk.1.1.2.2.2.2.2, ⟨hk.1.1.2.1, ⟨hk.1.1.2.2.1, ⟨hk.1.1.2.2.2.1, hk.2⟩⟩⟩⟩⟩⟩)))); (case aS => exact (below_size (uH HB.out))); (case aL => have := LMc117.out; omega); intro v395 w151 ho hb hg hat; rw [← Ny394.out] at ho; replace HO_8 := zA (Kd.V_afterv (ok := (fun k_ => (w.heap.size ≤ k_) ∧ some k_ ≠ (u336003 : Value).ownBlock ∧ some k_ ≠ (u336004 : Value).ownBlock ∧ ax k_ (.slice Ao127 t340.length co127) ∧ ax k_ (.slice Ao132 y344.length co132) ∧ ax k_ (.slice Ao134 t347.length co134) ∧ ax k_ (.slice Ao145 y385.length co145) ∧ ax k_ (.slice Ao146 y388.length co146) ∧ ax k_ (.slice Ao152 y391.length co152) ∧ k_ ≠ gb327 ∧ k_ ≠ gb328 ∧ k_ ≠ gb335)) (by (with_reducible repeat (first | apply Kd.V_alloc | apply Kd.V_drewN | apply Kd.V_drew)); exact Kd.V_mono HO_8.out (fun _ hk => ⟨⟨hk.1.1.1, ⟨hk.1.1.2.2.1, ⟨hk.1.1.2.2.2.1, ⟨hk.1.1.2.2.2.2.1, ⟨hk.1.1.2.2.2.2.2.1, ⟨hk.1.1.2.2.2.2.2.2.1, ⟨hk.1.1.2.2.2.2.2.2.2.1, ⟨hk.1.2, ⟨hk.2, ⟨hk.1.1.2.2.2.2.2.2.2.2.1, ⟨hk.1.1.2.2.2.2.2.2.2.2.2.1, hk.1.1.2.2.2.2.2.2.2.2.2.2⟩⟩⟩⟩⟩⟩⟩⟩⟩⟩⟩, hk.1.1.2.1⟩)) hg hat); replace HO_336003 := zA (Kd.R_after (ok := (fun k_ => (w.heap.size ≤ k_) ∧ some k_ ≠ (u336004 : Value).ownBlock ∧ ax k_ (.slice Ao127 t340.length co127) ∧ ax k_ (.slice Ao132 y344.length co132) ∧ ax k_ (.slice Ao134 t347.length co134) ∧ ax k_ (.slice Ao152 y391.length co152))) (uR (Kd.R_mono HO_336003.out (fun _ hk => ⟨⟨hk.1.1.1, ⟨hk.1.1.2.2.2.2.2, ⟨hk.1.1.2.1, ⟨hk.1.1.2.2.1, ⟨hk.1.1.2.2.2.1, hk.2⟩⟩⟩⟩⟩, hk.1.1.2.2.2.2.1⟩))) hg hat); replace HO_336004 := zA (Kd.R_after (ok := (fun k_ => (w.heap.size ≤ k_) ∧ some k_ ≠ (u336003 : Value).ownBlock ∧ ax k_ (.slice Ao127 t340.length co127) ∧ ax k_ (.slice Ao132 y344.length co132) ∧ ax k_ (.slice Ao134 t347.length co134) ∧ ax k_ (.slice Ao152 y391.length co152))) (uR (Kd.R_mono HO_336004.out (fun _ hk => ⟨⟨hk.1.1.1, ⟨hk.1.1.2.2.2.2.2, ⟨hk.1.1.2.1, ⟨hk.1.1.2.2.1, ⟨hk.1.1.2.2.2.1, hk.2⟩⟩⟩⟩⟩, hk.1.1.2.2.2.2.1⟩))) hg hat); replace BK327 := zA (blk_grown (g := gb327) (o := .cells #[.int .i64 a0_0, .slice (some ad352) l0_1.length c0_1] 40 (0, 0)) (uB BK327.out) hg (Kd.R_ne HO_336001.out BK327.out (by decide))); replace BK328 := zA (blk_grown (g := gb328) (o := .cells #[.slice none 0 0, .slice none 0 0, .int .i64 0, .slice none 0 0, .slice none 0 0] 95 (0, 0)) (uB BK328.out) hg (Kd.R_ne HO_336001.out BK328.out (by decide))); replace BK335 := zA (blk_grown (g := gb335) (o := .cells #[.slice Ao146 y388.length co146, u336001, .int .i64 a0_0, u336003, u336004] 95 (0, 0)) (uB BK335.out) hg (Kd.R_ne HO_336001.out BK335.out (by decide))); replace HL339_0 := zA (Kd.V_afterv (ok := (fun k_ => (w.heap.size ≤ k_) ∧ some k_ ≠ (u336003 : Value).ownBlock ∧ some k_ ≠ (u336004 : Value).ownBlock ∧ ax k_ (.slice Ao127 t340.length co127) ∧ ax k_ (.slice Ao132 y344.length co132) ∧ ax k_ (.slice Ao134 t347.length co134) ∧ ax k_ (.slice Ao145 y385.length co145) ∧ ax k_ (.slice Ao146 y388.length co146) ∧ ax k_ (.slice Ao152 y391.length co152) ∧ k_ ≠ gb327 ∧ k_ ≠ gb328 ∧ k_ ≠ gb335)) (by (with_reducible repeat (first | apply Kd.V_alloc | apply Kd.V_drewN | apply Kd.V_drew)); exact Kd.V_mono HL339_0.out (fun _ hk => ⟨⟨hk.1.1.1, ⟨hk.1.1.2.2.1, ⟨hk.1.1.2.2.2.1, ⟨hk.1.1.2.2.2.2.1, ⟨hk.1.1.2.2.2.2.2.1, ⟨hk.1.1.2.2.2.2.2.2.1, ⟨hk.1.1.2.2.2.2.2.2.2.1, ⟨hk.1.2, ⟨hk.2, ⟨hk.1.1.2.2.2.2.2.2.2.2.1, ⟨hk.1.1.2.2.2.2.2.2.2.2.2.1, hk.1.1.2.2.2.2.2.2.2.2.2.2⟩⟩⟩⟩⟩⟩⟩⟩⟩⟩⟩, hk.1.1.2.1⟩)) hg hat); replace HO342 := zA (Kd.R_after (ok := (fun k_ => (w.heap.size ≤ k_) ∧ some k_ ≠ (u336003 : Value).ownBlock ∧ some k_ ≠ (u336004 : Value).ownBlock ∧ ax k_ (.slice Ao132 y344.length co132) ∧ ax k_ (.slice Ao134 t347.length co134) ∧ ax k_ (.slice Ao152 y391.length co152))) (uR (Kd.R_mono HO342.out (fun _ hk => ⟨⟨hk.1.1.1, ⟨hk.1.1.2.2.2.2.1, ⟨hk.1.1.2.2.2.2.2, ⟨hk.1.1.2.1, ⟨hk.1.1.2.2.1, hk.2⟩⟩⟩⟩⟩, hk.1.1.2.2.2.1⟩))) hg hat); replace HO346 := zA (Kd.R_after (ok := (fun k_ => (w.heap.size ≤ k_) ∧ some k_ ≠ (u336003 : Value).ownBlock ∧ some k_ ≠ (u336004 : Value).ownBlock ∧ ax k_ (.slice Ao127 t340.length co127) ∧ ax k_ (.slice Ao134 t347.length co134) ∧ ax k_ (.slice Ao152 y391.length co152))) (uR (Kd.R_mono HO346.out (fun _ hk => ⟨⟨hk.1.1.1, ⟨hk.1.1.2.2.2.2.1, ⟨hk.1.1.2.2.2.2.2, ⟨hk.1.1.2.1, ⟨hk.1.1.2.2.1, hk.2⟩⟩⟩⟩⟩, hk.1.1.2.2.2.1⟩))) hg hat); replace HO349 := zA (Kd.R_after (ok := (fun k_ => (w.heap.size ≤ k_) ∧ some k_ ≠ (u336003 : Value).ownBlock ∧ some k_ ≠ (u336004 : Value).ownBlock ∧ ax k_ (.slice Ao127 t340.length co127) ∧ ax k_ (.slice Ao132 y344.length co132) ∧ ax k_ (.slice Ao152 y391.length co152))) (uR (Kd.R_mono HO349.out (fun _ hk => ⟨⟨hk.1.1.1, ⟨hk.1.1.2.2.2.2.1, ⟨hk.1.1.2.2.2.2.2, ⟨hk.1.1.2.1, ⟨hk.1.1.2.2.1, hk.2⟩⟩⟩⟩⟩, hk.1.1.2.2.2.1⟩))) hg hat); replace HO387 := zA (R_afterv (ok := (fun k_ => (w.heap.size ≤ k_) ∧ some k_ ≠ (u336003 : Value).ownBlock ∧ some k_ ≠ (u336004 : Value).ownBlock ∧ ax k_ (.slice Ao127 t340.length co127) ∧ ax k_ (.slice Ao132 y344.length co132) ∧ ax k_ (.slice Ao134 t347.length co134) ∧ ax k_ (.slice Ao146 y388.length co146) ∧ ax k_ (.slice Ao152 y391.length co152) ∧ k_ ≠ gb327 ∧ k_ ≠ gb328 ∧ k_ ≠ gb335)) (uR (Kd.R_mono HO387.out (fun _ hk => ⟨⟨hk.1.1.1, ⟨hk.1.1.2.2.1, ⟨hk.1.1.2.2.2.1, ⟨hk.1.1.2.2.2.2.1, ⟨hk.1.1.2.2.2.2.2.1, ⟨hk.1.1.2.2.2.2.2.2.1, ⟨hk.1.2, ⟨hk.2, ⟨hk.1.1.2.2.2.2.2.2.2.1, ⟨hk.1.1.2.2.2.2.2.2.2.2.1, hk.1.1.2.2.2.2.2.2.2.2.2⟩⟩⟩⟩⟩⟩⟩⟩⟩⟩, hk.1.1.2.1⟩))) hg hat); replace HO390 := zA (R_afterv (ok := (fun k_ => (w.heap.size ≤ k_) ∧ some k_ ≠ (u336003 : Value).ownBlock ∧ some k_ ≠ (u336004 : Value).ownBlock ∧ ax k_ (.slice Ao127 t340.length co127) ∧ ax k_ (.slice Ao132 y344.length co132) ∧ ax k_ (.slice Ao134 t347.length co134) ∧ ax k_ (.slice Ao152 y391.length co152) ∧ k_ ≠ gb327 ∧ k_ ≠ gb328 ∧ k_ ≠ gb335)) (uR (Kd.R_mono HO390.out (fun _ hk => ⟨⟨hk.1.1, ⟨hk.1.2.2.1, ⟨hk.1.2.2.2.1, ⟨hk.1.2.2.2.2.1, ⟨hk.1.2.2.2.2.2.1, ⟨hk.1.2.2.2.2.2.2.1, ⟨hk.2, ⟨hk.1.2.2.2.2.2.2.2.1, ⟨hk.1.2.2.2.2.2.2.2.2.1, hk.1.2.2.2.2.2.2.2.2.2⟩⟩⟩⟩⟩⟩⟩⟩⟩, hk.1.2.1⟩))) hg hat); replace HO393 := zA (Kd.R_after (ok := (fun k_ => (w.heap.size ≤ k_) ∧ some k_ ≠ (u336003 : Value).ownBlock ∧ some k_ ≠ (u336004 : Value).ownBlock ∧ ax k_ (.slice Ao127 t340.length co127) ∧ ax k_ (.slice Ao132 y344.length co132) ∧ ax k_ (.slice Ao134 t347.length co134))) (uR (Kd.R_mono HO393.out (fun _ hk => ⟨⟨hk.1.1.1.1.1.1.1, ⟨hk.1.1.1.1.2, ⟨hk.1.1.1.2, ⟨hk.1.1.2, ⟨hk.1.2, hk.2⟩⟩⟩⟩⟩, hk.1.1.1.1.1.2⟩))) hg hat); replace HB := zA (hb); have HO396 := zA (ho); clear HO_336001 ho hb hg hat; obtain ⟨Ao153, co153, eo153⟩ := Kd.R_slice HO396.out; subst eo153; have hcz154_0 := bc BK335 0; have hcz154_1 := bc BK335 1; have hcz154_2 := bc BK335 2; have hcz154_3 := bc BK335 3; have hcz154_4 := bc BK335 4; have hfz154_0 := bf BK335 0; have hfz154_1 := bf BK335 1; have hfz154_2 := bf BK335 2; have hfz154_3 := bf BK335 3; have hfz154_4 := bf BK335 4; obtain ⟨Ao155, co155, eo155⟩ := Kd.R_slice HO_336003.out; subst eo155; obtain ⟨Ao156, co156, eo156⟩ := Kd.R_slice HO_336004.out; subst eo156))
       have n0_ : Aside0 (Kd.V (Kd.int .i64) 2 (w151.setCell ⟨gb335, 1, none⟩ (.slice Ao153 y394.length co153)) w.heap.size (fun k_ => (w.heap.size ≤ k_) ∧ ax k_ (.slice Ao155 x336003_2.length co155) ∧ ax k_ (.slice Ao156 x336004_2.length co156) ∧ ax k_ (.slice Ao127 t340.length co127) ∧ ax k_ (.slice Ao132 y344.length co132) ∧ ax k_ (.slice Ao134 t347.length co134) ∧ ax k_ (.slice Ao145 y385.length co145) ∧ ax k_ (.slice Ao146 y388.length co146) ∧ ax k_ (.slice Ao152 y391.length co152) ∧ ax k_ (.slice Ao153 y394.length co153) ∧ k_ ≠ gb327 ∧ k_ ≠ gb328 ∧ k_ ≠ gb335) (.slice Ao139 x8_2.length co139) x8_2) := ⟨by (with_reducible repeat (first | apply Kd.V_alloc | apply Kd.V_drewN | apply Kd.V_drew)); exact Kd.V_mono (Kd.V_far (p := ⟨gb335, 1, none⟩) (Kd.V_mono HO_8.out (fun k_ hk => (⟨hk, hk.1.2.2.2.2.2.2.2.2.2.2.2⟩ : _ ∧ k_ ≠ gb335))) (fun _ hk => hk.2) (.slice Ao153 y394.length co153)) (fun _ hk => ⟨hk.1.1.1, ⟨hk.1.1.2.1, ⟨hk.1.1.2.2.1, ⟨hk.1.1.2.2.2.1, ⟨hk.1.1.2.2.2.2.1, ⟨hk.1.1.2.2.2.2.2.1, ⟨hk.1.1.2.2.2.2.2.2.1, ⟨hk.1.1.2.2.2.2.2.2.2.1, ⟨hk.1.1.2.2.2.2.2.2.2.2.1, ⟨hk.1.2, ⟨hk.1.1.2.2.2.2.2.2.2.2.2.1, ⟨hk.1.1.2.2.2.2.2.2.2.2.2.2.1, hk.1.1.2.2.2.2.2.2.2.2.2.2.2⟩⟩⟩⟩⟩⟩⟩⟩⟩⟩⟩⟩)⟩
       have n1_ : Aside0 (Kd.R (Kd.int .i64) 2 (w151.setCell ⟨gb335, 1, none⟩ (.slice Ao153 y394.length co153)) w.heap.size (fun k_ => (w.heap.size ≤ k_) ∧ ax k_ (.slice Ao156 x336004_2.length co156) ∧ ax k_ (.slice Ao127 t340.length co127) ∧ ax k_ (.slice Ao132 y344.length co132) ∧ ax k_ (.slice Ao134 t347.length co134) ∧ ax k_ (.slice Ao152 y391.length co152) ∧ ax k_ (.slice Ao153 y394.length co153)) (.slice Ao155 x336003_2.length co155) x336003_2) := ⟨uR (Kd.R_mono (Kd.R_far (p := ⟨gb335, 1, none⟩) (Kd.R_types HO_336003.out BK335.out (by decide)) (fun _ hk => hk.2) (.slice Ao153 y394.length co153)) (fun _ hk => ⟨hk.1.1.1, ⟨hk.1.1.2.1, ⟨hk.1.1.2.2.1, ⟨hk.1.1.2.2.2.1, ⟨hk.1.1.2.2.2.2.1, ⟨hk.1.1.2.2.2.2.2, hk.1.2⟩⟩⟩⟩⟩⟩))⟩
       have n2_ : Aside0 (Kd.R (Kd.int .i64) 2 (w151.setCell ⟨gb335, 1, none⟩ (.slice Ao153 y394.length co153)) w.heap.size (fun k_ => (w.heap.size ≤ k_) ∧ ax k_ (.slice Ao155 x336003_2.length co155) ∧ ax k_ (.slice Ao127 t340.length co127) ∧ ax k_ (.slice Ao132 y344.length co132) ∧ ax k_ (.slice Ao134 t347.length co134) ∧ ax k_ (.slice Ao152 y391.length co152) ∧ ax k_ (.slice Ao153 y394.length co153)) (.slice Ao156 x336004_2.length co156) x336004_2) := ⟨uR (Kd.R_mono (Kd.R_far (p := ⟨gb335, 1, none⟩) (Kd.R_types HO_336004.out BK335.out (by decide)) (fun _ hk => hk.2) (.slice Ao153 y394.length co153)) (fun _ hk => ⟨hk.1.1.1, ⟨hk.1.1.2.1, ⟨hk.1.1.2.2.1, ⟨hk.1.1.2.2.2.1, ⟨hk.1.1.2.2.2.2.1, ⟨hk.1.1.2.2.2.2.2, hk.1.2⟩⟩⟩⟩⟩⟩))⟩
       have n3_ : Aside0 (Kd.V (Kd.int .i64) 2 (w151.setCell ⟨gb335, 1, none⟩ (.slice Ao153 y394.length co153)) w.heap.size (fun k_ => (w.heap.size ≤ k_) ∧ ax k_ (.slice Ao155 x336003_2.length co155) ∧ ax k_ (.slice Ao156 x336004_2.length co156) ∧ ax k_ (.slice Ao127 t340.length co127) ∧ ax k_ (.slice Ao132 y344.length co132) ∧ ax k_ (.slice Ao134 t347.length co134) ∧ ax k_ (.slice Ao145 y385.length co145) ∧ ax k_ (.slice Ao146 y388.length co146) ∧ ax k_ (.slice Ao152 y391.length co152) ∧ ax k_ (.slice Ao153 y394.length co153) ∧ k_ ≠ gb327 ∧ k_ ≠ gb328 ∧ k_ ≠ gb335) (.slice A339_0 (rd_L1 x336000_2 x37_2).length c339_0) (rd_L1 x336000_2 x37_2)) := ⟨by (with_reducible repeat (first | apply Kd.V_alloc | apply Kd.V_drewN | apply Kd.V_drew)); exact Kd.V_mono (Kd.V_far (p := ⟨gb335, 1, none⟩) (Kd.V_mono HL339_0.out (fun k_ hk => (⟨hk, hk.1.2.2.2.2.2.2.2.2.2.2.2⟩ : _ ∧ k_ ≠ gb335))) (fun _ hk => hk.2) (.slice Ao153 y394.length co153)) (fun _ hk => ⟨hk.1.1.1, ⟨hk.1.1.2.1, ⟨hk.1.1.2.2.1, ⟨hk.1.1.2.2.2.1, ⟨hk.1.1.2.2.2.2.1, ⟨hk.1.1.2.2.2.2.2.1, ⟨hk.1.1.2.2.2.2.2.2.1, ⟨hk.1.1.2.2.2.2.2.2.2.1, ⟨hk.1.1.2.2.2.2.2.2.2.2.1, ⟨hk.1.2, ⟨hk.1.1.2.2.2.2.2.2.2.2.2.1, ⟨hk.1.1.2.2.2.2.2.2.2.2.2.2.1, hk.1.1.2.2.2.2.2.2.2.2.2.2.2⟩⟩⟩⟩⟩⟩⟩⟩⟩⟩⟩⟩)⟩
       have n4_ : Aside0 (Kd.R (Kd.int .i64) 2 (w151.setCell ⟨gb335, 1, none⟩ (.slice Ao153 y394.length co153)) w.heap.size (fun k_ => (w.heap.size ≤ k_) ∧ ax k_ (.slice Ao155 x336003_2.length co155) ∧ ax k_ (.slice Ao156 x336004_2.length co156) ∧ ax k_ (.slice Ao132 y344.length co132) ∧ ax k_ (.slice Ao134 t347.length co134) ∧ ax k_ (.slice Ao152 y391.length co152) ∧ ax k_ (.slice Ao153 y394.length co153)) (.slice Ao127 t340.length co127) t340) := ⟨uR (Kd.R_mono (Kd.R_far (p := ⟨gb335, 1, none⟩) (Kd.R_types HO342.out BK335.out (by decide)) (fun _ hk => hk.2) (.slice Ao153 y394.length co153)) (fun _ hk => ⟨hk.1.1.1, ⟨hk.1.1.2.1, ⟨hk.1.1.2.2.1, ⟨hk.1.1.2.2.2.1, ⟨hk.1.1.2.2.2.2.1, ⟨hk.1.1.2.2.2.2.2, hk.1.2⟩⟩⟩⟩⟩⟩))⟩
       have n5_ : Aside0 (Kd.R (Kd.int .i64) 2 (w151.setCell ⟨gb335, 1, none⟩ (.slice Ao153 y394.length co153)) w.heap.size (fun k_ => (w.heap.size ≤ k_) ∧ ax k_ (.slice Ao155 x336003_2.length co155) ∧ ax k_ (.slice Ao156 x336004_2.length co156) ∧ ax k_ (.slice Ao127 t340.length co127) ∧ ax k_ (.slice Ao134 t347.length co134) ∧ ax k_ (.slice Ao152 y391.length co152) ∧ ax k_ (.slice Ao153 y394.length co153)) (.slice Ao132 y344.length co132) y344) := ⟨uR (Kd.R_mono (Kd.R_far (p := ⟨gb335, 1, none⟩) (Kd.R_types HO346.out BK335.out (by decide)) (fun _ hk => hk.2) (.slice Ao153 y394.length co153)) (fun _ hk => ⟨hk.1.1.1, ⟨hk.1.1.2.1, ⟨hk.1.1.2.2.1, ⟨hk.1.1.2.2.2.1, ⟨hk.1.1.2.2.2.2.1, ⟨hk.1.1.2.2.2.2.2, hk.1.2⟩⟩⟩⟩⟩⟩))⟩
       have n6_ : Aside0 (Kd.R (Kd.int .i64) 2 (w151.setCell ⟨gb335, 1, none⟩ (.slice Ao153 y394.length co153)) w.heap.size (fun k_ => (w.heap.size ≤ k_) ∧ ax k_ (.slice Ao155 x336003_2.length co155) ∧ ax k_ (.slice Ao156 x336004_2.length co156) ∧ ax k_ (.slice Ao127 t340.length co127) ∧ ax k_ (.slice Ao132 y344.length co132) ∧ ax k_ (.slice Ao152 y391.length co152) ∧ ax k_ (.slice Ao153 y394.length co153)) (.slice Ao134 t347.length co134) t347) := ⟨uR (Kd.R_mono (Kd.R_far (p := ⟨gb335, 1, none⟩) (Kd.R_types HO349.out BK335.out (by decide)) (fun _ hk => hk.2) (.slice Ao153 y394.length co153)) (fun _ hk => ⟨hk.1.1.1, ⟨hk.1.1.2.1, ⟨hk.1.1.2.2.1, ⟨hk.1.1.2.2.2.1, ⟨hk.1.1.2.2.2.2.1, ⟨hk.1.1.2.2.2.2.2, hk.1.2⟩⟩⟩⟩⟩⟩))⟩
       have n7_ : Aside0 (Kd.R (Kd.slice 2 (Kd.int .i64)) 22 (w151.setCell ⟨gb335, 1, none⟩ (.slice Ao153 y394.length co153)) w.heap.size (fun k_ => (w.heap.size ≤ k_) ∧ ax k_ (.slice Ao155 x336003_2.length co155) ∧ ax k_ (.slice Ao156 x336004_2.length co156) ∧ ax k_ (.slice Ao127 t340.length co127) ∧ ax k_ (.slice Ao132 y344.length co132) ∧ ax k_ (.slice Ao134 t347.length co134) ∧ ax k_ (.slice Ao146 y388.length co146) ∧ ax k_ (.slice Ao152 y391.length co152) ∧ ax k_ (.slice Ao153 y394.length co153) ∧ k_ ≠ gb327 ∧ k_ ≠ gb328 ∧ k_ ≠ gb335) (.slice Ao145 y385.length co145) y385) := ⟨by (with_reducible repeat (first | apply Kd.R_alloc | apply Kd.R_drewN | apply Kd.R_drew)); exact Kd.R_mono (Kd.R_far (p := ⟨gb335, 1, none⟩) (Kd.R_mono HO387.out (fun k_ hk => (⟨hk, hk.1.2.2.2.2.2.2.2.2.2.2⟩ : _ ∧ k_ ≠ gb335))) (fun _ hk => hk.2) (.slice Ao153 y394.length co153)) (fun _ hk => ⟨hk.1.1.1, ⟨hk.1.1.2.1, ⟨hk.1.1.2.2.1, ⟨hk.1.1.2.2.2.1, ⟨hk.1.1.2.2.2.2.1, ⟨hk.1.1.2.2.2.2.2.1, ⟨hk.1.1.2.2.2.2.2.2.1, ⟨hk.1.1.2.2.2.2.2.2.2.1, ⟨hk.1.2, ⟨hk.1.1.2.2.2.2.2.2.2.2.1, ⟨hk.1.1.2.2.2.2.2.2.2.2.2.1, hk.1.1.2.2.2.2.2.2.2.2.2.2⟩⟩⟩⟩⟩⟩⟩⟩⟩⟩⟩)⟩
       have n8_ : Aside0 (Kd.R (Kd.slice 2 (Kd.int .i64)) 22 (w151.setCell ⟨gb335, 1, none⟩ (.slice Ao153 y394.length co153)) w.heap.size (fun k_ => (w.heap.size ≤ k_) ∧ ax k_ (.slice Ao155 x336003_2.length co155) ∧ ax k_ (.slice Ao156 x336004_2.length co156) ∧ ax k_ (.slice Ao127 t340.length co127) ∧ ax k_ (.slice Ao132 y344.length co132) ∧ ax k_ (.slice Ao134 t347.length co134) ∧ ax k_ (.slice Ao152 y391.length co152) ∧ ax k_ (.slice Ao153 y394.length co153) ∧ k_ ≠ gb327 ∧ k_ ≠ gb328 ∧ k_ ≠ gb335) (.slice Ao146 y388.length co146) y388) := ⟨by (with_reducible repeat (first | apply Kd.R_alloc | apply Kd.R_drewN | apply Kd.R_drew)); exact Kd.R_mono (Kd.R_far (p := ⟨gb335, 1, none⟩) (Kd.R_mono HO390.out (fun k_ hk => (⟨hk, hk.1.2.2.2.2.2.2.2.2.2⟩ : _ ∧ k_ ≠ gb335))) (fun _ hk => hk.2) (.slice Ao153 y394.length co153)) (fun _ hk => ⟨hk.1.1.1, ⟨hk.1.1.2.1, ⟨hk.1.1.2.2.1, ⟨hk.1.1.2.2.2.1, ⟨hk.1.1.2.2.2.2.1, ⟨hk.1.1.2.2.2.2.2.1, ⟨hk.1.1.2.2.2.2.2.2.1, ⟨hk.1.2, ⟨hk.1.1.2.2.2.2.2.2.2.1, ⟨hk.1.1.2.2.2.2.2.2.2.2.1, hk.1.1.2.2.2.2.2.2.2.2.2⟩⟩⟩⟩⟩⟩⟩⟩⟩⟩)⟩
       have n9_ : Aside0 (Kd.R (Kd.int .i64) 2 (w151.setCell ⟨gb335, 1, none⟩ (.slice Ao153 y394.length co153)) w.heap.size (fun k_ => (w.heap.size ≤ k_) ∧ ax k_ (.slice Ao155 x336003_2.length co155) ∧ ax k_ (.slice Ao156 x336004_2.length co156) ∧ ax k_ (.slice Ao127 t340.length co127) ∧ ax k_ (.slice Ao132 y344.length co132) ∧ ax k_ (.slice Ao134 t347.length co134) ∧ ax k_ (.slice Ao153 y394.length co153)) (.slice Ao152 y391.length co152) y391) := ⟨uR (Kd.R_mono (Kd.R_far (p := ⟨gb335, 1, none⟩) (Kd.R_types HO393.out BK335.out (by decide)) (fun _ hk => hk.2) (.slice Ao153 y394.length co153)) (fun _ hk => ⟨hk.1.1.1, ⟨hk.1.1.2.1, ⟨hk.1.1.2.2.1, ⟨hk.1.1.2.2.2.1, ⟨hk.1.1.2.2.2.2.1, ⟨hk.1.1.2.2.2.2.2, hk.1.2⟩⟩⟩⟩⟩⟩))⟩
       have n10_ : Aside0 (Kd.R (Kd.int .i64) 2 (w151.setCell ⟨gb335, 1, none⟩ (.slice Ao153 y394.length co153)) w.heap.size (fun k_ => (w.heap.size ≤ k_) ∧ ax k_ (.slice Ao155 x336003_2.length co155) ∧ ax k_ (.slice Ao156 x336004_2.length co156) ∧ ax k_ (.slice Ao127 t340.length co127) ∧ ax k_ (.slice Ao132 y344.length co132) ∧ ax k_ (.slice Ao134 t347.length co134) ∧ ax k_ (.slice Ao152 y391.length co152)) (.slice Ao153 y394.length co153) y394) := ⟨uR (Kd.R_mono (Kd.R_far (p := ⟨gb335, 1, none⟩) (Kd.R_types HO396.out BK335.out (by decide)) (fun _ hk => hk.2) (.slice Ao153 y394.length co153)) (fun _ hk => ⟨hk.1.1, ⟨hk.1.2.1, ⟨hk.1.2.2.1, ⟨hk.1.2.2.2.1, ⟨hk.1.2.2.2.2.1, ⟨hk.1.2.2.2.2.2.1, hk.1.2.2.2.2.2.2⟩⟩⟩⟩⟩⟩))⟩
       have n11_ : Aside0 ((w151.setCell ⟨gb335, 1, none⟩ (.slice Ao153 y394.length co153)).heap[gb327]? = some (.cells #[.int .i64 a0_0, .slice (some ad352) l0_1.length c0_1] 40 (0, 0))) := ⟨by (repeat refine up1 ?_); refine blk_far ?_ NB327_335.out _; (repeat refine up1 ?_); exact BK327.out⟩
       have n12_ : Aside0 ((w151.setCell ⟨gb335, 1, none⟩ (.slice Ao153 y394.length co153)).heap[gb328]? = some (.cells #[.slice none 0 0, .slice none 0 0, .int .i64 0, .slice none 0 0, .slice none 0 0] 95 (0, 0))) := ⟨by (repeat refine up1 ?_); refine blk_far ?_ NB328_335.out _; (repeat refine up1 ?_); exact BK328.out⟩
       have n13_ : Aside0 ((w151.setCell ⟨gb335, 1, none⟩ (.slice Ao153 y394.length co153)).heap[gb335]? = some (.cells #[.slice Ao146 y388.length co146, .slice Ao153 y394.length co153, .int .i64 a0_0, .slice Ao155 x336003_2.length co155, .slice Ao156 x336004_2.length co156] 95 (0, 0))) := ⟨by (repeat refine up1 ?_); refine blk_put (cs := #[.slice Ao146 y388.length co146, u336001, .int .i64 a0_0, .slice Ao155 x336003_2.length co155, .slice Ao156 x336004_2.length co156]) ?_ 1 _ rfl; (repeat refine up1 ?_); exact BK335.out⟩
       have n14_ : Aside0 (Below w.heap.size w (w151.setCell ⟨gb335, 1, none⟩ (.slice Ao153 y394.length co153))) := ⟨uH HB.out⟩
       (try clear HO_8); (try clear HO_336003); (try clear HO_336004); (try clear HL339_0); (try clear HO342); (try clear HO346); (try clear HO349); (try clear HO387); (try clear HO390); (try clear HO393); (try clear HO396); (try clear BK327); (try clear BK328); (try clear BK335); (try clear HB)
       (try rw [setCell_drewN])
       generalize (w151.setCell ⟨gb335, 1, none⟩ (.slice Ao153 y394.length co153)) = w157 at n0_ n1_ n2_ n3_ n4_ n5_ n6_ n7_ n8_ n9_ n10_ n11_ n12_ n13_ n14_ ⊢
       have HO_8 := n0_
       have HO_336003 := n1_
       have HO_336004 := n2_
       have HL339_0 := n3_
       have HO342 := n4_
       have HO346 := n5_
       have HO349 := n6_
       have HO387 := n7_
       have HO390 := n8_
       have HO393 := n9_
       have HO396 := n10_
       have BK327 := n11_
       have BK328 := n12_
       have BK335 := n13_
       have HB := n14_
       clear n0_ n1_ n2_ n3_ n4_ n5_ n6_ n7_ n8_ n9_ n10_ n11_ n12_ n13_ n14_
       replace HO_8 := zA (Kd.V_drew HO_8.out)
       replace HO_336003 := zA (Kd.R_drew HO_336003.out)
       replace HO_336004 := zA (Kd.R_drew HO_336004.out)
       replace HL339_0 := zA (Kd.V_drew HL339_0.out)
       replace HO342 := zA (Kd.R_drew HO342.out)
       replace HO346 := zA (Kd.R_drew HO346.out)
       replace HO349 := zA (Kd.R_drew HO349.out)
       replace HO387 := zA (Kd.R_drew HO387.out)
       replace HO390 := zA (Kd.R_drew HO390.out)
       replace HO393 := zA (Kd.R_drew HO393.out)
       replace HO396 := zA (Kd.R_drew HO396.out)
       replace BK327 := zA (blk_drew BK327.out)
       replace BK328 := zA (blk_drew BK328.out)
       replace BK335 := zA (blk_drew BK335.out)
       replace HB := zA (below_drew1 HB.out)
       refine start_ (n := 18) (S := fun w' => w'.cell? ⟨gb335, 0, none⟩ = some (.slice Ao146 y388.length co146) ∧ w'.cell? ⟨gb335, 1, none⟩ = some (.slice Ao153 y394.length co153) ∧ w'.cell? ⟨gb335, 2, none⟩ = some (.int .i64 a0_0) ∧ w'.cell? ⟨gb335, 3, none⟩ = some (.slice Ao155 x336003_2.length co155) ∧ w'.cell? ⟨gb335, 4, none⟩ = some (.slice Ao156 x336004_2.length co156)) (ds := [14, 17]) #[false, false, false, false, false, false, false, false, false, false, false, false, false, false, false, false, false, false] (by kernel_rfl) rfl rfl ⟨bcu BK335 0, bcu BK335 1, bcu BK335 2, bcu BK335 3, bcu BK335 4⟩ (fun hHeld => ?_); refine with_tabW impl_Moments_upTo.tab18 impl_Moments_upTo.bits18 (fun HT_ HW_ => ?_)
       generalize w157.drew = w158 at HO_8 HO_336003 HO_336004 HL339_0 HO342 HO346 HO349 HO387 HO390 HO393 HO396 BK327 BK328 BK335 HB hHeld ⊢
       refine pu_ 0 93 (bl 18 1) HT_ ?_
       refine pu_ 1 94 (bl 18 3) HT_ ?_
       refine pu_ 3 96 (bl 18 11) HT_ ?_
       refine pu_ 6 99 (bl 18 75) HT_ ?_
       refine pu_ 7 100 (bl 18 203) HT_ ?_
       refine pu_ 9 102 (bl 18 715) HT_ ?_
       refine ta_ 2 95 (bl 18 719) HT_ HW_ hHeld ?_
       refine ta_ 8 101 (bl 18 975) HT_ HW_ hHeld ?_
       refine join_ (σ := Value × Value × Value) 5 (bl 18 14335) (fun s_ => [(97, s_.1), (98, s_.2.1), (103, s_.2.2), (105, .pointer (some ⟨gb335, 2, none⟩)), (106, .pointer (some ⟨gb335, 3, none⟩))]) (fun s_ w' => (w'.cell? ⟨gb335, 0, none⟩ = some (.slice Ao146 y388.length co146) ∧ w'.cell? ⟨gb335, 1, none⟩ = some (.slice Ao153 y394.length co153) ∧ w'.cell? ⟨gb335, 2, none⟩ = some (.int .i64 a0_0) ∧ w'.cell? ⟨gb335, 3, none⟩ = some (.slice Ao155 x336003_2.length co155) ∧ w'.cell? ⟨gb335, 4, none⟩ = some (.slice Ao156 x336004_2.length co156)) ∧ (Kd.V (Kd.int .i64) 2 w' w.heap.size (fun k_ => (w.heap.size ≤ k_) ∧ ax k_ (.slice Ao127 t340.length co127) ∧ ax k_ (.slice Ao132 y344.length co132) ∧ ax k_ (.slice Ao134 t347.length co134) ∧ ax k_ (.slice Ao145 y385.length co145) ∧ ax k_ (.slice Ao146 y388.length co146) ∧ ax k_ (.slice Ao152 y391.length co152) ∧ ax k_ (.slice Ao153 y394.length co153) ∧ some k_ ≠ (s_.1 : Value).ownBlock ∧ some k_ ≠ (s_.2.1 : Value).ownBlock ∧ some k_ ≠ (s_.2.2 : Value).ownBlock ∧ ax k_ (.slice Ao156 x336004_2.length co156) ∧ k_ ≠ gb327 ∧ k_ ≠ gb328 ∧ k_ ≠ gb335) (.slice A339_0 (rd_L1 x336000_2 x37_2).length c339_0) (rd_L1 x336000_2 x37_2)) ∧ (Kd.R (Kd.int .i64) 2 w' w.heap.size (fun k_ => (w.heap.size ≤ k_) ∧ ax k_ (.slice Ao132 y344.length co132) ∧ ax k_ (.slice Ao134 t347.length co134) ∧ ax k_ (.slice Ao152 y391.length co152) ∧ ax k_ (.slice Ao153 y394.length co153) ∧ some k_ ≠ (s_.1 : Value).ownBlock ∧ some k_ ≠ (s_.2.1 : Value).ownBlock ∧ some k_ ≠ (s_.2.2 : Value).ownBlock ∧ ax k_ (.slice Ao156 x336004_2.length co156)) (.slice Ao127 t340.length co127) t340) ∧ (Kd.R (Kd.int .i64) 2 w' w.heap.size (fun k_ => (w.heap.size ≤ k_) ∧ ax k_ (.slice Ao127 t340.length co127) ∧ ax k_ (.slice Ao134 t347.length co134) ∧ ax k_ (.slice Ao152 y391.length co152) ∧ ax k_ (.slice Ao153 y394.length co153) ∧ some k_ ≠ (s_.1 : Value).ownBlock ∧ some k_ ≠ (s_.2.1 : Value).ownBlock ∧ some k_ ≠ (s_.2.2 : Value).ownBlock ∧ ax k_ (.slice Ao156 x336004_2.length co156)) (.slice Ao132 y344.length co132) y344) ∧ (Kd.R (Kd.int .i64) 2 w' w.heap.size (fun k_ => (w.heap.size ≤ k_) ∧ ax k_ (.slice Ao127 t340.length co127) ∧ ax k_ (.slice Ao132 y344.length co132) ∧ ax k_ (.slice Ao152 y391.length co152) ∧ ax k_ (.slice Ao153 y394.length co153) ∧ some k_ ≠ (s_.1 : Value).ownBlock ∧ some k_ ≠ (s_.2.1 : Value).ownBlock ∧ some k_ ≠ (s_.2.2 : Value).ownBlock ∧ ax k_ (.slice Ao156 x336004_2.length co156)) (.slice Ao134 t347.length co134) t347) ∧ (Kd.R (Kd.slice 2 (Kd.int .i64)) 22 w' w.heap.size (fun k_ => (w.heap.size ≤ k_) ∧ ax k_ (.slice Ao127 t340.length co127) ∧ ax k_ (.slice Ao132 y344.length co132) ∧ ax k_ (.slice Ao134 t347.length co134) ∧ ax k_ (.slice Ao146 y388.length co146) ∧ ax k_ (.slice Ao152 y391.length co152) ∧ ax k_ (.slice Ao153 y394.length co153) ∧ some k_ ≠ (s_.1 : Value).ownBlock ∧ some k_ ≠ (s_.2.1 : Value).ownBlock ∧ some k_ ≠ (s_.2.2 : Value).ownBlock ∧ ax k_ (.slice Ao156 x336004_2.length co156) ∧ k_ ≠ gb327 ∧ k_ ≠ gb328 ∧ k_ ≠ gb335) (.slice Ao145 y385.length co145) y385) ∧ (Kd.R (Kd.slice 2 (Kd.int .i64)) 22 w' w.heap.size (fun k_ => (w.heap.size ≤ k_) ∧ ax k_ (.slice Ao127 t340.length co127) ∧ ax k_ (.slice Ao132 y344.length co132) ∧ ax k_ (.slice Ao134 t347.length co134) ∧ ax k_ (.slice Ao152 y391.length co152) ∧ ax k_ (.slice Ao153 y394.length co153) ∧ some k_ ≠ (s_.1 : Value).ownBlock ∧ some k_ ≠ (s_.2.1 : Value).ownBlock ∧ some k_ ≠ (s_.2.2 : Value).ownBlock ∧ ax k_ (.slice Ao156 x336004_2.length co156) ∧ k_ ≠ gb327 ∧ k_ ≠ gb328 ∧ k_ ≠ gb335) (.slice Ao146 y388.length co146) y388) ∧ (Kd.R (Kd.int .i64) 2 w' w.heap.size (fun k_ => (w.heap.size ≤ k_) ∧ ax k_ (.slice Ao127 t340.length co127) ∧ ax k_ (.slice Ao132 y344.length co132) ∧ ax k_ (.slice Ao134 t347.length co134) ∧ ax k_ (.slice Ao153 y394.length co153) ∧ some k_ ≠ (s_.1 : Value).ownBlock ∧ some k_ ≠ (s_.2.1 : Value).ownBlock ∧ some k_ ≠ (s_.2.2 : Value).ownBlock ∧ ax k_ (.slice Ao156 x336004_2.length co156)) (.slice Ao152 y391.length co152) y391) ∧ (Kd.R (Kd.int .i64) 2 w' w.heap.size (fun k_ => (w.heap.size ≤ k_) ∧ ax k_ (.slice Ao127 t340.length co127) ∧ ax k_ (.slice Ao132 y344.length co132) ∧ ax k_ (.slice Ao134 t347.length co134) ∧ ax k_ (.slice Ao152 y391.length co152) ∧ some k_ ≠ (s_.1 : Value).ownBlock ∧ some k_ ≠ (s_.2.1 : Value).ownBlock ∧ some k_ ≠ (s_.2.2 : Value).ownBlock ∧ ax k_ (.slice Ao156 x336004_2.length co156)) (.slice Ao153 y394.length co153) y394) ∧ (Kd.R (Kd.int .i64) 2 w' w.heap.size (fun k_ => (w.heap.size ≤ k_) ∧ ax k_ (.slice Ao127 t340.length co127) ∧ ax k_ (.slice Ao132 y344.length co132) ∧ ax k_ (.slice Ao134 t347.length co134) ∧ ax k_ (.slice Ao152 y391.length co152) ∧ ax k_ (.slice Ao153 y394.length co153) ∧ some k_ ≠ (s_.2.1 : Value).ownBlock ∧ some k_ ≠ (s_.2.2 : Value).ownBlock ∧ ax k_ (.slice Ao156 x336004_2.length co156)) s_.1 y397) ∧ (Kd.R (Kd.int .i64) 2 w' w.heap.size (fun k_ => (w.heap.size ≤ k_) ∧ ax k_ (.slice Ao127 t340.length co127) ∧ ax k_ (.slice Ao132 y344.length co132) ∧ ax k_ (.slice Ao134 t347.length co134) ∧ ax k_ (.slice Ao152 y391.length co152) ∧ ax k_ (.slice Ao153 y394.length co153) ∧ some k_ ≠ (s_.1 : Value).ownBlock ∧ some k_ ≠ (s_.2.2 : Value).ownBlock ∧ ax k_ (.slice Ao156 x336004_2.length co156)) s_.2.1 y400) ∧ (Kd.R (Kd.int .i64) 2 w' w.heap.size (fun k_ => (w.heap.size ≤ k_) ∧ ax k_ (.slice Ao127 t340.length co127) ∧ ax k_ (.slice Ao132 y344.length co132) ∧ ax k_ (.slice Ao134 t347.length co134) ∧ ax k_ (.slice Ao152 y391.length co152) ∧ ax k_ (.slice Ao153 y394.length co153) ∧ some k_ ≠ (s_.1 : Value).ownBlock ∧ some k_ ≠ (s_.2.1 : Value).ownBlock ∧ ax k_ (.slice Ao156 x336004_2.length co156)) s_.2.2 y403) ∧ (Kd.R (Kd.int .i64) 2 w' w.heap.size (fun k_ => (w.heap.size ≤ k_) ∧ ax k_ (.slice Ao127 t340.length co127) ∧ ax k_ (.slice Ao132 y344.length co132) ∧ ax k_ (.slice Ao134 t347.length co134) ∧ ax k_ (.slice Ao152 y391.length co152) ∧ ax k_ (.slice Ao153 y394.length co153) ∧ some k_ ≠ (s_.1 : Value).ownBlock ∧ some k_ ≠ (s_.2.1 : Value).ownBlock ∧ some k_ ≠ (s_.2.2 : Value).ownBlock) (.slice Ao156 x336004_2.length co156) x336004_2) ∧ (Kd.V (Kd.int .i64) 2 w' w.heap.size (fun k_ => (w.heap.size ≤ k_) ∧ ax k_ (.slice Ao127 t340.length co127) ∧ ax k_ (.slice Ao132 y344.length co132) ∧ ax k_ (.slice Ao134 t347.length co134) ∧ ax k_ (.slice Ao145 y385.length co145) ∧ ax k_ (.slice Ao146 y388.length co146) ∧ ax k_ (.slice Ao152 y391.length co152) ∧ ax k_ (.slice Ao153 y394.length co153) ∧ some k_ ≠ (s_.1 : Value).ownBlock ∧ some k_ ≠ (s_.2.1 : Value).ownBlock ∧ some k_ ≠ (s_.2.2 : Value).ownBlock ∧ ax k_ (.slice Ao156 x336004_2.length co156) ∧ k_ ≠ gb327 ∧ k_ ≠ gb328 ∧ k_ ≠ gb335) (.slice Ao139 x8_2.length co139) x8_2) ∧ (w'.heap[gb327]? = some (.cells #[.int .i64 a0_0, .slice (some ad352) l0_1.length c0_1] 40 (0, 0))) ∧ (w'.heap[gb328]? = some (.cells #[.slice none 0 0, .slice none 0 0, .int .i64 0, .slice none 0 0, .slice none 0 0] 95 (0, 0))) ∧ (w'.heap[gb335]? = some (.cells #[.slice Ao146 y388.length co146, .slice Ao153 y394.length co153, .int .i64 a0_0, .slice Ao155 x336003_2.length co155, .slice Ao156 x336004_2.length co156] 95 (0, 0))) ∧ (Below w.heap.size w w')) ?_ ?_
       rotate_left
       ·intro hCont
        refine two_ (i := 4) (j := 10) (Ni := some 97) (Nj := some 103) (bl 18 991) (bl 18 1999) rfl rfl rfl rfl (two_of HT_.out (by kernel_rfl)) (by decide) (by decide) (fun K hK => ?_) (fun K hK => ?_)
        ·skip
         refine Kd.R_lit_step (Kd.int .i64) _ 2 ?hg (N := 97) ?hd (xs := ([t351] : List Int)) (inner := [.int .i64 t351]) (ok := fun _ => True) (okp := fun _ => True) ?hr ?hp (fun _ hk => hk) trivial (Below.refl _ _) (Nat.le_refl _) (by simp) ?_; (case hd => rfl); (case hg => rfl); (case hr => first | (go_simp; done) | (go_simp; rfl)); (case hp => exact (Reps.one (show Kd.M (Kd.int .i64) _ _ _ t351 [.int .i64 t351] from rfl) (Reps.none _ _)))
         intro v398 w159 ho160 hb hg_ hnew_
         clear hg_ hnew_
         (first | rw [← Ny397.out] at ho160 | (simp only [Int.reduceToNat] at ho160; rw [← Ny397.out] at ho160))
         replace HO_8 := zA (Kd.V_elder' (by (with_reducible repeat (first | apply Kd.V_alloc | apply Kd.V_drewN | apply Kd.V_drew)); exact HO_8.out) (Kd.R_base ho160) hb)
         replace HL339_0 := zA (Kd.V_elder' (by (with_reducible repeat (first | apply Kd.V_alloc | apply Kd.V_drewN | apply Kd.V_drew)); exact HL339_0.out) (Kd.R_base ho160) hb)
         replace HO387 := zA (Kd.R_elder' (uR HO387.out) (Kd.R_base ho160) hb)
         replace HO390 := zA (Kd.R_elder' (uR HO390.out) (Kd.R_base ho160) hb)
         have HO399 := zA (Kd.R_lower (Kd.R_new' (Kd.R_new' (Kd.R_new' (Kd.R_new' (Kd.R_new' (Kd.R_new' (Kd.R_new' (Kd.R_newM (M := fun k_ => (w.heap.size ≤ k_)) ho160 (below_size (uH HB.out)) (fun k_ h_ => h_)) (Kd.R_lt (uR HO_336003.out))) (Kd.R_lt (uR HO_336004.out))) (Kd.R_lt (uR HO342.out))) (Kd.R_lt (uR HO346.out))) (Kd.R_lt (uR HO349.out))) (Kd.R_lt (uR HO393.out))) (Kd.R_lt (uR HO396.out))) (below_size (uH HB.out)))
         replace HO_336003 := zA (Kd.R_elder' (uR HO_336003.out) (Kd.R_base ho160) hb)
         replace HO_336004 := zA (Kd.R_elder' (uR HO_336004.out) (Kd.R_base ho160) hb)
         replace HO342 := zA (Kd.R_elder' (uR HO342.out) (Kd.R_base ho160) hb)
         replace HO346 := zA (Kd.R_elder' (uR HO346.out) (Kd.R_base ho160) hb)
         replace HO349 := zA (Kd.R_elder' (uR HO349.out) (Kd.R_base ho160) hb)
         replace HO393 := zA (Kd.R_elder' (uR HO393.out) (Kd.R_base ho160) hb)
         replace HO396 := zA (Kd.R_elder' (uR HO396.out) (Kd.R_base ho160) hb)
         replace BK327 := xB BK327 hb
         replace BK328 := xB BK328 hb
         replace BK335 := xB BK335 hb
         replace HB := xH HB hb
         clear hb ho160
         obtain ⟨Ao162, co162, eo162⟩ := Kd.R_slice HO399.out
         (first | subst eo162 | (injection eo162 with f1_ f2_ f3_; have f4_ := f1_.symm; have f5_ := f3_.symm; clear f1_ f2_ f3_; subst f4_; subst f5_))
         refine hK.out _ _ ⟨bcu BK335 0, bcu BK335 1, bcu BK335 2, bcu BK335 3, bcu BK335 4⟩ (fun hHeld => ?_)
         clear hK K
         refine no_ 97 ?_
         refine two_ (i := 5) (j := 10) (Ni := some 98) (Nj := some 103) (bl 18 1023) (bl 18 2015) rfl rfl rfl rfl (two_of HT_.out (by kernel_rfl)) (by decide) (by decide) (fun K hK => ?_) (fun K hK => ?_)
         ·skip
          refine Kd.R_append_rows_step (Kd.int .i64) (w0 := w) w.heap.size (by rfl) (.tmp 95) (.tmp 97) 22 2 (.int .i64 0) 8 rfl Try.underlying22 info2 rfl (by decide) (by omega) (.slice Ao155 x336003_2.length co155) x336003_2 y397 _ _ _ (fun k_ => (w.heap.size ≤ k_) ∧ ax k_ (.slice Ao156 x336004_2.length co156) ∧ ax k_ (.slice Ao127 t340.length co127) ∧ ax k_ (.slice Ao132 y344.length co132) ∧ ax k_ (.slice Ao134 t347.length co134) ∧ ax k_ (.slice Ao152 y391.length co152) ∧ ax k_ (.slice Ao153 y394.length co153) ∧ ax k_ (.slice Ao162 y397.length co162)) (fun _ => False) rfl rfl ?aO ?aR (fun _ _ h => h) (fun _ h => h.elim) ?aF ?aB ?aS ?aL ?_
          (case aR => exact uC ((Kd.R_reads' HO399.out).2.2))
          (case aB => exact (uH HB.out))
          (case aF => exact (fun k_ hk => ⟨(Nat.le_trans (below_size (uH HB.out)) hk), Kd.fresh' (Kd.R_lt (uR HO_336004.out)) k_ hk, Kd.fresh' (Kd.R_lt (uR HO342.out)) k_ hk, Kd.fresh' (Kd.R_lt (uR HO346.out)) k_ hk, Kd.fresh' (Kd.R_lt (uR HO349.out)) k_ hk, Kd.fresh' (Kd.R_lt (uR HO393.out)) k_ hk, Kd.fresh' (Kd.R_lt (uR HO396.out)) k_ hk, Kd.fresh' (Kd.R_lt (uR HO399.out)) k_ hk⟩))
          (case aO => exact (uR (Kd.R_mono HO_336003.out (fun _ hk => ⟨hk.1.1, ⟨hk.1.2.1, ⟨hk.1.2.2.1, ⟨hk.1.2.2.2.1, ⟨hk.1.2.2.2.2.1, ⟨hk.1.2.2.2.2.2.1, ⟨hk.1.2.2.2.2.2.2, hk.2⟩⟩⟩⟩⟩⟩⟩))))
          (case aS => exact (below_size (uH HB.out)))
          (case aL => have := LMc118.out; omega)
          intro v401 w161 ho hb hg hat
          rw [← Ny400.out] at ho
          replace HO_8 := zA (Kd.V_afterv (ok := (fun k_ => (w.heap.size ≤ k_) ∧ ax k_ (.slice Ao156 x336004_2.length co156) ∧ ax k_ (.slice Ao127 t340.length co127) ∧ ax k_ (.slice Ao132 y344.length co132) ∧ ax k_ (.slice Ao134 t347.length co134) ∧ ax k_ (.slice Ao145 y385.length co145) ∧ ax k_ (.slice Ao146 y388.length co146) ∧ ax k_ (.slice Ao152 y391.length co152) ∧ ax k_ (.slice Ao153 y394.length co153) ∧ ax k_ (.slice Ao162 y397.length co162) ∧ k_ ≠ gb327 ∧ k_ ≠ gb328 ∧ k_ ≠ gb335)) (by (with_reducible repeat (first | apply Kd.V_alloc | apply Kd.V_drewN | apply Kd.V_drew)); exact Kd.V_mono HO_8.out (fun _ hk => ⟨⟨hk.1.1, ⟨hk.1.2.2.1, ⟨hk.1.2.2.2.1, ⟨hk.1.2.2.2.2.1, ⟨hk.1.2.2.2.2.2.1, ⟨hk.1.2.2.2.2.2.2.1, ⟨hk.1.2.2.2.2.2.2.2.1, ⟨hk.1.2.2.2.2.2.2.2.2.1, ⟨hk.1.2.2.2.2.2.2.2.2.2.1, ⟨hk.2, ⟨hk.1.2.2.2.2.2.2.2.2.2.2.1, ⟨hk.1.2.2.2.2.2.2.2.2.2.2.2.1, hk.1.2.2.2.2.2.2.2.2.2.2.2.2⟩⟩⟩⟩⟩⟩⟩⟩⟩⟩⟩⟩, hk.1.2.1⟩)) hg hat)
          replace HO_336004 := zA (Kd.R_after (ok := (fun k_ => (w.heap.size ≤ k_) ∧ ax k_ (.slice Ao127 t340.length co127) ∧ ax k_ (.slice Ao132 y344.length co132) ∧ ax k_ (.slice Ao134 t347.length co134) ∧ ax k_ (.slice Ao152 y391.length co152) ∧ ax k_ (.slice Ao153 y394.length co153) ∧ ax k_ (.slice Ao162 y397.length co162))) (uR (Kd.R_mono HO_336004.out (fun _ hk => ⟨⟨hk.1.1, ⟨hk.1.2.2.1, ⟨hk.1.2.2.2.1, ⟨hk.1.2.2.2.2.1, ⟨hk.1.2.2.2.2.2.1, ⟨hk.1.2.2.2.2.2.2, hk.2⟩⟩⟩⟩⟩⟩, hk.1.2.1⟩))) hg hat)
          replace BK327 := zA (blk_grown (g := gb327) (o := .cells #[.int .i64 a0_0, .slice (some ad352) l0_1.length c0_1] 40 (0, 0)) (uB BK327.out) hg (Kd.R_ne HO_336003.out BK327.out (by decide)))
          replace BK328 := zA (blk_grown (g := gb328) (o := .cells #[.slice none 0 0, .slice none 0 0, .int .i64 0, .slice none 0 0, .slice none 0 0] 95 (0, 0)) (uB BK328.out) hg (Kd.R_ne HO_336003.out BK328.out (by decide)))
          replace BK335 := zA (blk_grown (g := gb335) (o := .cells #[.slice Ao146 y388.length co146, .slice Ao153 y394.length co153, .int .i64 a0_0, .slice Ao155 x336003_2.length co155, .slice Ao156 x336004_2.length co156] 95 (0, 0)) (uB BK335.out) hg (Kd.R_ne HO_336003.out BK335.out (by decide)))
          replace HL339_0 := zA (Kd.V_afterv (ok := (fun k_ => (w.heap.size ≤ k_) ∧ ax k_ (.slice Ao156 x336004_2.length co156) ∧ ax k_ (.slice Ao127 t340.length co127) ∧ ax k_ (.slice Ao132 y344.length co132) ∧ ax k_ (.slice Ao134 t347.length co134) ∧ ax k_ (.slice Ao145 y385.length co145) ∧ ax k_ (.slice Ao146 y388.length co146) ∧ ax k_ (.slice Ao152 y391.length co152) ∧ ax k_ (.slice Ao153 y394.length co153) ∧ ax k_ (.slice Ao162 y397.length co162) ∧ k_ ≠ gb327 ∧ k_ ≠ gb328 ∧ k_ ≠ gb335)) (by (with_reducible repeat (first | apply Kd.V_alloc | apply Kd.V_drewN | apply Kd.V_drew)); exact Kd.V_mono HL339_0.out (fun _ hk => ⟨⟨hk.1.1, ⟨hk.1.2.2.1, ⟨hk.1.2.2.2.1, ⟨hk.1.2.2.2.2.1, ⟨hk.1.2.2.2.2.2.1, ⟨hk.1.2.2.2.2.2.2.1, ⟨hk.1.2.2.2.2.2.2.2.1, ⟨hk.1.2.2.2.2.2.2.2.2.1, ⟨hk.1.2.2.2.2.2.2.2.2.2.1, ⟨hk.2, ⟨hk.1.2.2.2.2.2.2.2.2.2.2.1, ⟨hk.1.2.2.2.2.2.2.2.2.2.2.2.1, hk.1.2.2.2.2.2.2.2.2.2.2.2.2⟩⟩⟩⟩⟩⟩⟩⟩⟩⟩⟩⟩, hk.1.2.1⟩)) hg hat)
          replace HO342 := zA (Kd.R_after (ok := (fun k_ => (w.heap.size ≤ k_) ∧ ax k_ (.slice Ao156 x336004_2.length co156) ∧ ax k_ (.slice Ao132 y344.length co132) ∧ ax k_ (.slice Ao134 t347.length co134) ∧ ax k_ (.slice Ao152 y391.length co152) ∧ ax k_ (.slice Ao153 y394.length co153) ∧ ax k_ (.slice Ao162 y397.length co162))) (uR (Kd.R_mono HO342.out (fun _ hk => ⟨⟨hk.1.1, ⟨hk.1.2.2.1, ⟨hk.1.2.2.2.1, ⟨hk.1.2.2.2.2.1, ⟨hk.1.2.2.2.2.2.1, ⟨hk.1.2.2.2.2.2.2, hk.2⟩⟩⟩⟩⟩⟩, hk.1.2.1⟩))) hg hat)
          replace HO346 := zA (Kd.R_after (ok := (fun k_ => (w.heap.size ≤ k_) ∧ ax k_ (.slice Ao156 x336004_2.length co156) ∧ ax k_ (.slice Ao127 t340.length co127) ∧ ax k_ (.slice Ao134 t347.length co134) ∧ ax k_ (.slice Ao152 y391.length co152) ∧ ax k_ (.slice Ao153 y394.length co153) ∧ ax k_ (.slice Ao162 y397.length co162))) (uR (Kd.R_mono HO346.out (fun _ hk => ⟨⟨hk.1.1, ⟨hk.1.2.2.1, ⟨hk.1.2.2.2.1, ⟨hk.1.2.2.2.2.1, ⟨hk.1.2.2.2.2.2.1, ⟨hk.1.2.2.2.2.2.2, hk.2⟩⟩⟩⟩⟩⟩, hk.1.2.1⟩))) hg hat)
          replace HO349 := zA (Kd.R_after (ok := (fun k_ => (w.heap.size ≤ k_) ∧ ax k_ (.slice Ao156 x336004_2.length co156) ∧ ax k_ (.slice Ao127 t340.length co127) ∧ ax k_ (.slice Ao132 y344.length co132) ∧ ax k_ (.slice Ao152 y391.length co152) ∧ ax k_ (.slice Ao153 y394.length co153) ∧ ax k_ (.slice Ao162 y397.length co162))) (uR (Kd.R_mono HO349.out (fun _ hk => ⟨⟨hk.1.1, ⟨hk.1.2.2.1, ⟨hk.1.2.2.2.1, ⟨hk.1.2.2.2.2.1, ⟨hk.1.2.2.2.2.2.1, ⟨hk.1.2.2.2.2.2.2, hk.2⟩⟩⟩⟩⟩⟩, hk.1.2.1⟩))) hg hat)
          replace HO387 := zA (R_afterv (ok := (fun k_ => (w.heap.size ≤ k_) ∧ ax k_ (.slice Ao156 x336004_2.length co156) ∧ ax k_ (.slice Ao127 t340.length co127) ∧ ax k_ (.slice Ao132 y344.length co132) ∧ ax k_ (.slice Ao134 t347.length co134) ∧ ax k_ (.slice Ao146 y388.length co146) ∧ ax k_ (.slice Ao152 y391.length co152) ∧ ax k_ (.slice Ao153 y394.length co153) ∧ ax k_ (.slice Ao162 y397.length co162) ∧ k_ ≠ gb327 ∧ k_ ≠ gb328 ∧ k_ ≠ gb335)) (uR (Kd.R_mono HO387.out (fun _ hk => ⟨⟨hk.1.1, ⟨hk.1.2.2.1, ⟨hk.1.2.2.2.1, ⟨hk.1.2.2.2.2.1, ⟨hk.1.2.2.2.2.2.1, ⟨hk.1.2.2.2.2.2.2.1, ⟨hk.1.2.2.2.2.2.2.2.1, ⟨hk.1.2.2.2.2.2.2.2.2.1, ⟨hk.2, ⟨hk.1.2.2.2.2.2.2.2.2.2.1, ⟨hk.1.2.2.2.2.2.2.2.2.2.2.1, hk.1.2.2.2.2.2.2.2.2.2.2.2⟩⟩⟩⟩⟩⟩⟩⟩⟩⟩⟩, hk.1.2.1⟩))) hg hat)
          replace HO390 := zA (R_afterv (ok := (fun k_ => (w.heap.size ≤ k_) ∧ ax k_ (.slice Ao156 x336004_2.length co156) ∧ ax k_ (.slice Ao127 t340.length co127) ∧ ax k_ (.slice Ao132 y344.length co132) ∧ ax k_ (.slice Ao134 t347.length co134) ∧ ax k_ (.slice Ao152 y391.length co152) ∧ ax k_ (.slice Ao153 y394.length co153) ∧ ax k_ (.slice Ao162 y397.length co162) ∧ k_ ≠ gb327 ∧ k_ ≠ gb328 ∧ k_ ≠ gb335)) (uR (Kd.R_mono HO390.out (fun _ hk => ⟨⟨hk.1.1, ⟨hk.1.2.2.1, ⟨hk.1.2.2.2.1, ⟨hk.1.2.2.2.2.1, ⟨hk.1.2.2.2.2.2.1, ⟨hk.1.2.2.2.2.2.2.1, ⟨hk.1.2.2.2.2.2.2.2.1, ⟨hk.2, ⟨hk.1.2.2.2.2.2.2.2.2.1, ⟨hk.1.2.2.2.2.2.2.2.2.2.1, hk.1.2.2.2.2.2.2.2.2.2.2⟩⟩⟩⟩⟩⟩⟩⟩⟩⟩, hk.1.2.1⟩))) hg hat)
          replace HO393 := zA (Kd.R_after (ok := (fun k_ => (w.heap.size ≤ k_) ∧ ax k_ (.slice Ao156 x336004_2.length co156) ∧ ax k_ (.slice Ao127 t340.length co127) ∧ ax k_ (.slice Ao132 y344.length co132) ∧ ax k_ (.slice Ao134 t347.length co134) ∧ ax k_ (.slice Ao153 y394.length co153) ∧ ax k_ (.slice Ao162 y397.length co162))) (uR (Kd.R_mono HO393.out (fun _ hk => ⟨⟨hk.1.1, ⟨hk.1.2.2.1, ⟨hk.1.2.2.2.1, ⟨hk.1.2.2.2.2.1, ⟨hk.1.2.2.2.2.2.1, ⟨hk.1.2.2.2.2.2.2, hk.2⟩⟩⟩⟩⟩⟩, hk.1.2.1⟩))) hg hat)
          replace HO396 := zA (Kd.R_after (ok := (fun k_ => (w.heap.size ≤ k_) ∧ ax k_ (.slice Ao156 x336004_2.length co156) ∧ ax k_ (.slice Ao127 t340.length co127) ∧ ax k_ (.slice Ao132 y344.length co132) ∧ ax k_ (.slice Ao134 t347.length co134) ∧ ax k_ (.slice Ao152 y391.length co152) ∧ ax k_ (.slice Ao162 y397.length co162))) (uR (Kd.R_mono HO396.out (fun _ hk => ⟨⟨hk.1.1, ⟨hk.1.2.2.1, ⟨hk.1.2.2.2.1, ⟨hk.1.2.2.2.2.1, ⟨hk.1.2.2.2.2.2.1, ⟨hk.1.2.2.2.2.2.2, hk.2⟩⟩⟩⟩⟩⟩, hk.1.2.1⟩))) hg hat)
          replace HO399 := zA (Kd.R_after (ok := (fun k_ => (w.heap.size ≤ k_) ∧ ax k_ (.slice Ao156 x336004_2.length co156) ∧ ax k_ (.slice Ao127 t340.length co127) ∧ ax k_ (.slice Ao132 y344.length co132) ∧ ax k_ (.slice Ao134 t347.length co134) ∧ ax k_ (.slice Ao152 y391.length co152) ∧ ax k_ (.slice Ao153 y394.length co153))) (uR (Kd.R_mono HO399.out (fun _ hk => ⟨⟨hk.1.1.1.1.1.1.1.1, ⟨hk.1.1.1.1.1.2, ⟨hk.1.1.1.1.2, ⟨hk.1.1.1.2, ⟨hk.1.1.2, ⟨hk.1.2, hk.2⟩⟩⟩⟩⟩⟩, hk.1.1.1.1.1.1.2⟩))) hg hat)
          replace HB := zA (hb)
          have HO402 := zA (ho)
          clear HO_336003
          clear ho hb hg hat
          refine hK.out _ _ ⟨bcu BK335 0, bcu BK335 1, bcu BK335 2, bcu BK335 3, bcu BK335 4⟩ (fun hHeld => ?_)
          clear hK K
          refine no_ 98 ?_
          refine pu_ 12 105 (bl 18 5119) HT_ ?_
          refine pu_ 13 106 (bl 18 13311) HT_ ?_
          refine on_ 10 (some 103) (bl 18 14335) HT_ (fun K hK => ?_)
          refine Kd.R_lit_step (Kd.int .i64) _ 2 ?hg (N := 103) ?hd (xs := ([t354] : List Int)) (inner := [.int .i64 t354]) (ok := fun _ => True) (okp := fun _ => True) ?hr ?hp (fun _ hk => hk) trivial (Below.refl _ _) (Nat.le_refl _) (by simp) ?_; (case hd => rfl); (case hg => rfl); (case hr => first | (go_simp; done) | (go_simp; rfl)); (case hp => exact (Reps.one (show Kd.M (Kd.int .i64) _ _ _ t354 [.int .i64 t354] from rfl) (Reps.none _ _)))
          intro v404 w163 ho164 hb hg_ hnew_
          clear hg_ hnew_
          (first | rw [← Ny403.out] at ho164 | (simp only [Int.reduceToNat] at ho164; rw [← Ny403.out] at ho164))
          replace HO_8 := zA (Kd.V_elder' (by (with_reducible repeat (first | apply Kd.V_alloc | apply Kd.V_drewN | apply Kd.V_drew)); exact HO_8.out) (Kd.R_base ho164) hb)
          replace HL339_0 := zA (Kd.V_elder' (by (with_reducible repeat (first | apply Kd.V_alloc | apply Kd.V_drewN | apply Kd.V_drew)); exact HL339_0.out) (Kd.R_base ho164) hb)
          replace HO387 := zA (Kd.R_elder' (uR HO387.out) (Kd.R_base ho164) hb)
          replace HO390 := zA (Kd.R_elder' (uR HO390.out) (Kd.R_base ho164) hb)
          have HO405 := zA (Kd.R_lower (Kd.R_new' (Kd.R_new' (Kd.R_new' (Kd.R_new' (Kd.R_new' (Kd.R_new' (Kd.R_new' (Kd.R_new' (Kd.R_newM (M := fun k_ => (w.heap.size ≤ k_)) ho164 (below_size (uH HB.out)) (fun k_ h_ => h_)) (Kd.R_lt (uR HO_336004.out))) (Kd.R_lt (uR HO342.out))) (Kd.R_lt (uR HO346.out))) (Kd.R_lt (uR HO349.out))) (Kd.R_lt (uR HO393.out))) (Kd.R_lt (uR HO396.out))) (Kd.R_lt (uR HO399.out))) (Kd.R_lt (uR HO402.out))) (below_size (uH HB.out)))
          replace HO_336004 := zA (Kd.R_elder' (uR HO_336004.out) (Kd.R_base ho164) hb)
          replace HO342 := zA (Kd.R_elder' (uR HO342.out) (Kd.R_base ho164) hb)
          replace HO346 := zA (Kd.R_elder' (uR HO346.out) (Kd.R_base ho164) hb)
          replace HO349 := zA (Kd.R_elder' (uR HO349.out) (Kd.R_base ho164) hb)
          replace HO393 := zA (Kd.R_elder' (uR HO393.out) (Kd.R_base ho164) hb)
          replace HO396 := zA (Kd.R_elder' (uR HO396.out) (Kd.R_base ho164) hb)
          replace HO399 := zA (Kd.R_elder' (uR HO399.out) (Kd.R_base ho164) hb)
          replace HO402 := zA (Kd.R_elder' (uR HO402.out) (Kd.R_base ho164) hb)
          replace BK327 := xB BK327 hb
          replace BK328 := xB BK328 hb
          replace BK335 := xB BK335 hb
          replace HB := xH HB hb
          clear hb ho164
          refine hK.out _ _ ⟨bcu BK335 0, bcu BK335 1, bcu BK335 2, bcu BK335 3, bcu BK335 4⟩ (fun hHeld => ?_)
          clear hK K
          refine no_ 103 ?_
          exact norm_ (by simp only [putAll, Act.put, ls, lz, ln]) (hCont (.slice Ao162 y397.length co162, v401, v404) _ ⟨hHeld, (by (with_reducible repeat (first | apply Kd.V_alloc | apply Kd.V_drewN | apply Kd.V_drew)); exact Kd.V_mono HL339_0.out (fun _ hk => ⟨hk.1.1.1, ⟨hk.1.1.2.2.1, ⟨hk.1.1.2.2.2.1, ⟨hk.1.1.2.2.2.2.1, ⟨hk.1.1.2.2.2.2.2.1, ⟨hk.1.1.2.2.2.2.2.2.1, ⟨hk.1.1.2.2.2.2.2.2.2.1, ⟨hk.1.1.2.2.2.2.2.2.2.2.1, ⟨hk.1.1.2.2.2.2.2.2.2.2.2.1, ⟨hk.1.2, ⟨hk.2, ⟨hk.1.1.2.1, ⟨hk.1.1.2.2.2.2.2.2.2.2.2.2.1, ⟨hk.1.1.2.2.2.2.2.2.2.2.2.2.2.1, hk.1.1.2.2.2.2.2.2.2.2.2.2.2.2⟩⟩⟩⟩⟩⟩⟩⟩⟩⟩⟩⟩⟩⟩)), (uR (Kd.R_mono HO342.out (fun _ hk => ⟨hk.1.1.1, ⟨hk.1.1.2.2.1, ⟨hk.1.1.2.2.2.1, ⟨hk.1.1.2.2.2.2.1, ⟨hk.1.1.2.2.2.2.2.1, ⟨hk.1.1.2.2.2.2.2.2, ⟨hk.1.2, ⟨hk.2, hk.1.1.2.1⟩⟩⟩⟩⟩⟩⟩⟩))), (uR (Kd.R_mono HO346.out (fun _ hk => ⟨hk.1.1.1, ⟨hk.1.1.2.2.1, ⟨hk.1.1.2.2.2.1, ⟨hk.1.1.2.2.2.2.1, ⟨hk.1.1.2.2.2.2.2.1, ⟨hk.1.1.2.2.2.2.2.2, ⟨hk.1.2, ⟨hk.2, hk.1.1.2.1⟩⟩⟩⟩⟩⟩⟩⟩))), (uR (Kd.R_mono HO349.out (fun _ hk => ⟨hk.1.1.1, ⟨hk.1.1.2.2.1, ⟨hk.1.1.2.2.2.1, ⟨hk.1.1.2.2.2.2.1, ⟨hk.1.1.2.2.2.2.2.1, ⟨hk.1.1.2.2.2.2.2.2, ⟨hk.1.2, ⟨hk.2, hk.1.1.2.1⟩⟩⟩⟩⟩⟩⟩⟩))), (uR (Kd.R_mono HO387.out (fun _ hk => ⟨hk.1.1.1, ⟨hk.1.1.2.2.1, ⟨hk.1.1.2.2.2.1, ⟨hk.1.1.2.2.2.2.1, ⟨hk.1.1.2.2.2.2.2.1, ⟨hk.1.1.2.2.2.2.2.2.1, ⟨hk.1.1.2.2.2.2.2.2.2.1, ⟨hk.1.1.2.2.2.2.2.2.2.2.1, ⟨hk.1.2, ⟨hk.2, ⟨hk.1.1.2.1, ⟨hk.1.1.2.2.2.2.2.2.2.2.2.1, ⟨hk.1.1.2.2.2.2.2.2.2.2.2.2.1, hk.1.1.2.2.2.2.2.2.2.2.2.2.2⟩⟩⟩⟩⟩⟩⟩⟩⟩⟩⟩⟩⟩))), (uR (Kd.R_mono HO390.out (fun _ hk => ⟨hk.1.1.1, ⟨hk.1.1.2.2.1, ⟨hk.1.1.2.2.2.1, ⟨hk.1.1.2.2.2.2.1, ⟨hk.1.1.2.2.2.2.2.1, ⟨hk.1.1.2.2.2.2.2.2.1, ⟨hk.1.1.2.2.2.2.2.2.2.1, ⟨hk.1.2, ⟨hk.2, ⟨hk.1.1.2.1, ⟨hk.1.1.2.2.2.2.2.2.2.2.1, ⟨hk.1.1.2.2.2.2.2.2.2.2.2.1, hk.1.1.2.2.2.2.2.2.2.2.2.2⟩⟩⟩⟩⟩⟩⟩⟩⟩⟩⟩⟩))), (uR (Kd.R_mono HO393.out (fun _ hk => ⟨hk.1.1.1, ⟨hk.1.1.2.2.1, ⟨hk.1.1.2.2.2.1, ⟨hk.1.1.2.2.2.2.1, ⟨hk.1.1.2.2.2.2.2.1, ⟨hk.1.1.2.2.2.2.2.2, ⟨hk.1.2, ⟨hk.2, hk.1.1.2.1⟩⟩⟩⟩⟩⟩⟩⟩))), (uR (Kd.R_mono HO396.out (fun _ hk => ⟨hk.1.1.1, ⟨hk.1.1.2.2.1, ⟨hk.1.1.2.2.2.1, ⟨hk.1.1.2.2.2.2.1, ⟨hk.1.1.2.2.2.2.2.1, ⟨hk.1.1.2.2.2.2.2.2, ⟨hk.1.2, ⟨hk.2, hk.1.1.2.1⟩⟩⟩⟩⟩⟩⟩⟩))), (uR (Kd.R_mono HO399.out (fun _ hk => ⟨hk.1.1.1, ⟨hk.1.1.2.2.1, ⟨hk.1.1.2.2.2.1, ⟨hk.1.1.2.2.2.2.1, ⟨hk.1.1.2.2.2.2.2.1, ⟨hk.1.1.2.2.2.2.2.2, ⟨hk.1.2, ⟨hk.2, hk.1.1.2.1⟩⟩⟩⟩⟩⟩⟩⟩))), (uR (Kd.R_mono HO402.out (fun _ hk => ⟨hk.1.1, ⟨hk.1.2.2.1, ⟨hk.1.2.2.2.1, ⟨hk.1.2.2.2.2.1, ⟨hk.1.2.2.2.2.2.1, ⟨hk.1.2.2.2.2.2.2.1, ⟨hk.1.2.2.2.2.2.2.2, ⟨hk.2, hk.1.2.1⟩⟩⟩⟩⟩⟩⟩⟩))), (uR (Kd.R_mono HO405.out (fun _ hk => ⟨hk.1.1.1.1.1.1.1.1.1, ⟨hk.1.1.1.1.1.1.2, ⟨hk.1.1.1.1.1.2, ⟨hk.1.1.1.1.2, ⟨hk.1.1.1.2, ⟨hk.1.1.2, ⟨hk.1.2, ⟨hk.2, hk.1.1.1.1.1.1.1.2⟩⟩⟩⟩⟩⟩⟩⟩))), (uR (Kd.R_mono HO_336004.out (fun _ hk => ⟨hk.1.1.1, ⟨hk.1.1.2.1, ⟨hk.1.1.2.2.1, ⟨hk.1.1.2.2.2.1, ⟨hk.1.1.2.2.2.2.1, ⟨hk.1.1.2.2.2.2.2.1, ⟨hk.1.1.2.2.2.2.2.2, ⟨hk.1.2, hk.2⟩⟩⟩⟩⟩⟩⟩⟩))), (by (with_reducible repeat (first | apply Kd.V_alloc | apply Kd.V_drewN | apply Kd.V_drew)); exact Kd.V_mono HO_8.out (fun _ hk => ⟨hk.1.1.1, ⟨hk.1.1.2.2.1, ⟨hk.1.1.2.2.2.1, ⟨hk.1.1.2.2.2.2.1, ⟨hk.1.1.2.2.2.2.2.1, ⟨hk.1.1.2.2.2.2.2.2.1, ⟨hk.1.1.2.2.2.2.2.2.2.1, ⟨hk.1.1.2.2.2.2.2.2.2.2.1, ⟨hk.1.1.2.2.2.2.2.2.2.2.2.1, ⟨hk.1.2, ⟨hk.2, ⟨hk.1.1.2.1, ⟨hk.1.1.2.2.2.2.2.2.2.2.2.2.1, ⟨hk.1.1.2.2.2.2.2.2.2.2.2.2.2.1, hk.1.1.2.2.2.2.2.2.2.2.2.2.2.2⟩⟩⟩⟩⟩⟩⟩⟩⟩⟩⟩⟩⟩⟩)), (uB BK327.out), (uB BK328.out), (uB BK335.out), (uH HB.out)⟩)
         ·skip
          refine Kd.R_lit_step (Kd.int .i64) _ 2 ?hg (N := 103) ?hd (xs := ([t354] : List Int)) (inner := [.int .i64 t354]) (ok := fun _ => True) (okp := fun _ => True) ?hr ?hp (fun _ hk => hk) trivial (Below.refl _ _) (Nat.le_refl _) (by simp) ?_; (case hd => rfl); (case hg => rfl); (case hr => first | (go_simp; done) | (go_simp; rfl)); (case hp => exact (Reps.one (show Kd.M (Kd.int .i64) _ _ _ t354 [.int .i64 t354] from rfl) (Reps.none _ _)))
          intro v404 w161 ho162 hb hg_ hnew_
          clear hg_ hnew_
          (first | rw [← Ny403.out] at ho162 | (simp only [Int.reduceToNat] at ho162; rw [← Ny403.out] at ho162))
          replace HO_8 := zA (Kd.V_elder' (by (with_reducible repeat (first | apply Kd.V_alloc | apply Kd.V_drewN | apply Kd.V_drew)); exact HO_8.out) (Kd.R_base ho162) hb)
          replace HL339_0 := zA (Kd.V_elder' (by (with_reducible repeat (first | apply Kd.V_alloc | apply Kd.V_drewN | apply Kd.V_drew)); exact HL339_0.out) (Kd.R_base ho162) hb)
          replace HO387 := zA (Kd.R_elder' (uR HO387.out) (Kd.R_base ho162) hb)
          replace HO390 := zA (Kd.R_elder' (uR HO390.out) (Kd.R_base ho162) hb)
          have HO405 := zA (Kd.R_lower (Kd.R_new' (Kd.R_new' (Kd.R_new' (Kd.R_new' (Kd.R_new' (Kd.R_new' (Kd.R_new' (Kd.R_new' (Kd.R_newM (M := fun k_ => (w.heap.size ≤ k_)) ho162 (below_size (uH HB.out)) (fun k_ h_ => h_)) (Kd.R_lt (uR HO_336003.out))) (Kd.R_lt (uR HO_336004.out))) (Kd.R_lt (uR HO342.out))) (Kd.R_lt (uR HO346.out))) (Kd.R_lt (uR HO349.out))) (Kd.R_lt (uR HO393.out))) (Kd.R_lt (uR HO396.out))) (Kd.R_lt (uR HO399.out))) (below_size (uH HB.out)))
          replace HO_336003 := zA (Kd.R_elder' (uR HO_336003.out) (Kd.R_base ho162) hb)
          replace HO_336004 := zA (Kd.R_elder' (uR HO_336004.out) (Kd.R_base ho162) hb)
          replace HO342 := zA (Kd.R_elder' (uR HO342.out) (Kd.R_base ho162) hb)
          replace HO346 := zA (Kd.R_elder' (uR HO346.out) (Kd.R_base ho162) hb)
          replace HO349 := zA (Kd.R_elder' (uR HO349.out) (Kd.R_base ho162) hb)
          replace HO393 := zA (Kd.R_elder' (uR HO393.out) (Kd.R_base ho162) hb)
          replace HO396 := zA (Kd.R_elder' (uR HO396.out) (Kd.R_base ho162) hb)
          replace HO399 := zA (Kd.R_elder' (uR HO399.out) (Kd.R_base ho162) hb)
          replace BK327 := xB BK327 hb
          replace BK328 := xB BK328 hb
          replace BK335 := xB BK335 hb
          replace HB := xH HB hb
          clear hb ho162
          obtain ⟨Ao164, co164, eo164⟩ := Kd.R_slice HO399.out
          (first | subst eo164 | (injection eo164 with f1_ f2_ f3_; have f4_ := f1_.symm; have f5_ := f3_.symm; clear f1_ f2_ f3_; subst f4_; subst f5_))
          refine hK.out _ _ ⟨bcu BK335 0, bcu BK335 1, bcu BK335 2, bcu BK335 3, bcu BK335 4⟩ (fun hHeld => ?_)
          clear hK K
          refine no_ 103 ?_
          refine on_ 5 (some 98) (bl 18 2047) HT_ (fun K hK => ?_)
          refine Kd.R_append_rows_step (Kd.int .i64) (w0 := w) w.heap.size (by rfl) (.tmp 95) (.tmp 97) 22 2 (.int .i64 0) 8 rfl Try.underlying22 info2 rfl (by decide) (by omega) (.slice Ao155 x336003_2.length co155) x336003_2 y397 _ _ _ (fun k_ => (w.heap.size ≤ k_) ∧ ax k_ (.slice Ao156 x336004_2.length co156) ∧ ax k_ (.slice Ao127 t340.length co127) ∧ ax k_ (.slice Ao132 y344.length co132) ∧ ax k_ (.slice Ao134 t347.length co134) ∧ ax k_ (.slice Ao152 y391.length co152) ∧ ax k_ (.slice Ao153 y394.length co153) ∧ ax k_ (.slice Ao164 y397.length co164) ∧ some k_ ≠ (v404 : Value).ownBlock) (fun _ => False) rfl rfl ?aO ?aR (fun _ _ h => h) (fun _ h => h.elim) ?aF ?aB ?aS ?aL ?_
          (case aR => exact uC ((Kd.R_reads' HO399.out).2.2))
          (case aB => exact (uH HB.out))
          (case aF => exact (fun k_ hk => ⟨(Nat.le_trans (below_size (uH HB.out)) hk), Kd.fresh' (Kd.R_lt (uR HO_336004.out)) k_ hk, Kd.fresh' (Kd.R_lt (uR HO342.out)) k_ hk, Kd.fresh' (Kd.R_lt (uR HO346.out)) k_ hk, Kd.fresh' (Kd.R_lt (uR HO349.out)) k_ hk, Kd.fresh' (Kd.R_lt (uR HO393.out)) k_ hk, Kd.fresh' (Kd.R_lt (uR HO396.out)) k_ hk, Kd.fresh' (Kd.R_lt (uR HO399.out)) k_ hk, Kd.fresh' (Kd.R_lt (uR HO405.out)) k_ hk⟩))
          (case aO => exact (uR (Kd.R_mono HO_336003.out (fun _ hk => ⟨hk.1.1.1, ⟨hk.1.1.2.1, ⟨hk.1.1.2.2.1, ⟨hk.1.1.2.2.2.1, ⟨hk.1.1.2.2.2.2.1, ⟨hk.1.1.2.2.2.2.2.1, ⟨hk.1.1.2.2.2.2.2.2, ⟨hk.1.2, hk.2⟩⟩⟩⟩⟩⟩⟩⟩))))
          (case aS => exact (below_size (uH HB.out)))
          (case aL => have := LMc118.out; omega)
          intro v401 w163 ho hb hg hat
          rw [← Ny400.out] at ho
          replace HO_8 := zA (Kd.V_afterv (ok := (fun k_ => (w.heap.size ≤ k_) ∧ ax k_ (.slice Ao156 x336004_2.length co156) ∧ ax k_ (.slice Ao127 t340.length co127) ∧ ax k_ (.slice Ao132 y344.length co132) ∧ ax k_ (.slice Ao134 t347.length co134) ∧ ax k_ (.slice Ao145 y385.length co145) ∧ ax k_ (.slice Ao146 y388.length co146) ∧ ax k_ (.slice Ao152 y391.length co152) ∧ ax k_ (.slice Ao153 y394.length co153) ∧ ax k_ (.slice Ao164 y397.length co164) ∧ some k_ ≠ (v404 : Value).ownBlock ∧ k_ ≠ gb327 ∧ k_ ≠ gb328 ∧ k_ ≠ gb335)) (by (with_reducible repeat (first | apply Kd.V_alloc | apply Kd.V_drewN | apply Kd.V_drew)); exact Kd.V_mono HO_8.out (fun _ hk => ⟨⟨hk.1.1.1, ⟨hk.1.1.2.2.1, ⟨hk.1.1.2.2.2.1, ⟨hk.1.1.2.2.2.2.1, ⟨hk.1.1.2.2.2.2.2.1, ⟨hk.1.1.2.2.2.2.2.2.1, ⟨hk.1.1.2.2.2.2.2.2.2.1, ⟨hk.1.1.2.2.2.2.2.2.2.2.1, ⟨hk.1.1.2.2.2.2.2.2.2.2.2.1, ⟨hk.1.2, ⟨hk.2, ⟨hk.1.1.2.2.2.2.2.2.2.2.2.2.1, ⟨hk.1.1.2.2.2.2.2.2.2.2.2.2.2.1, hk.1.1.2.2.2.2.2.2.2.2.2.2.2.2⟩⟩⟩⟩⟩⟩⟩⟩⟩⟩⟩⟩⟩, hk.1.1.2.1⟩)) hg hat)
          replace HO_336004 := zA (Kd.R_after (ok := (fun k_ => (w.heap.size ≤ k_) ∧ ax k_ (.slice Ao127 t340.length co127) ∧ ax k_ (.slice Ao132 y344.length co132) ∧ ax k_ (.slice Ao134 t347.length co134) ∧ ax k_ (.slice Ao152 y391.length co152) ∧ ax k_ (.slice Ao153 y394.length co153) ∧ ax k_ (.slice Ao164 y397.length co164) ∧ some k_ ≠ (v404 : Value).ownBlock)) (uR (Kd.R_mono HO_336004.out (fun _ hk => ⟨⟨hk.1.1.1, ⟨hk.1.1.2.2.1, ⟨hk.1.1.2.2.2.1, ⟨hk.1.1.2.2.2.2.1, ⟨hk.1.1.2.2.2.2.2.1, ⟨hk.1.1.2.2.2.2.2.2, ⟨hk.1.2, hk.2⟩⟩⟩⟩⟩⟩⟩, hk.1.1.2.1⟩))) hg hat)
          replace BK327 := zA (blk_grown (g := gb327) (o := .cells #[.int .i64 a0_0, .slice (some ad352) l0_1.length c0_1] 40 (0, 0)) (uB BK327.out) hg (Kd.R_ne HO_336003.out BK327.out (by decide)))
          replace BK328 := zA (blk_grown (g := gb328) (o := .cells #[.slice none 0 0, .slice none 0 0, .int .i64 0, .slice none 0 0, .slice none 0 0] 95 (0, 0)) (uB BK328.out) hg (Kd.R_ne HO_336003.out BK328.out (by decide)))
          replace BK335 := zA (blk_grown (g := gb335) (o := .cells #[.slice Ao146 y388.length co146, .slice Ao153 y394.length co153, .int .i64 a0_0, .slice Ao155 x336003_2.length co155, .slice Ao156 x336004_2.length co156] 95 (0, 0)) (uB BK335.out) hg (Kd.R_ne HO_336003.out BK335.out (by decide)))
          replace HL339_0 := zA (Kd.V_afterv (ok := (fun k_ => (w.heap.size ≤ k_) ∧ ax k_ (.slice Ao156 x336004_2.length co156) ∧ ax k_ (.slice Ao127 t340.length co127) ∧ ax k_ (.slice Ao132 y344.length co132) ∧ ax k_ (.slice Ao134 t347.length co134) ∧ ax k_ (.slice Ao145 y385.length co145) ∧ ax k_ (.slice Ao146 y388.length co146) ∧ ax k_ (.slice Ao152 y391.length co152) ∧ ax k_ (.slice Ao153 y394.length co153) ∧ ax k_ (.slice Ao164 y397.length co164) ∧ some k_ ≠ (v404 : Value).ownBlock ∧ k_ ≠ gb327 ∧ k_ ≠ gb328 ∧ k_ ≠ gb335)) (by (with_reducible repeat (first | apply Kd.V_alloc | apply Kd.V_drewN | apply Kd.V_drew)); exact Kd.V_mono HL339_0.out (fun _ hk => ⟨⟨hk.1.1.1, ⟨hk.1.1.2.2.1, ⟨hk.1.1.2.2.2.1, ⟨hk.1.1.2.2.2.2.1, ⟨hk.1.1.2.2.2.2.2.1, ⟨hk.1.1.2.2.2.2.2.2.1, ⟨hk.1.1.2.2.2.2.2.2.2.1, ⟨hk.1.1.2.2.2.2.2.2.2.2.1, ⟨hk.1.1.2.2.2.2.2.2.2.2.2.1, ⟨hk.1.2, ⟨hk.2, ⟨hk.1.1.2.2.2.2.2.2.2.2.2.2.1, ⟨hk.1.1.2.2.2.2.2.2.2.2.2.2.2.1, hk.1.1.2.2.2.2.2.2.2.2.2.2.2.2⟩⟩⟩⟩⟩⟩⟩⟩⟩⟩⟩⟩⟩, hk.1.1.2.1⟩)) hg hat)
          replace HO342 := zA (Kd.R_after (ok := (fun k_ => (w.heap.size ≤ k_) ∧ ax k_ (.slice Ao156 x336004_2.length co156) ∧ ax k_ (.slice Ao132 y344.length co132) ∧ ax k_ (.slice Ao134 t347.length co134) ∧ ax k_ (.slice Ao152 y391.length co152) ∧ ax k_ (.slice Ao153 y394.length co153) ∧ ax k_ (.slice Ao164 y397.length co164) ∧ some k_ ≠ (v404 : Value).ownBlock)) (uR (Kd.R_mono HO342.out (fun _ hk => ⟨⟨hk.1.1.1, ⟨hk.1.1.2.2.1, ⟨hk.1.1.2.2.2.1, ⟨hk.1.1.2.2.2.2.1, ⟨hk.1.1.2.2.2.2.2.1, ⟨hk.1.1.2.2.2.2.2.2, ⟨hk.1.2, hk.2⟩⟩⟩⟩⟩⟩⟩, hk.1.1.2.1⟩))) hg hat)
          replace HO346 := zA (Kd.R_after (ok := (fun k_ => (w.heap.size ≤ k_) ∧ ax k_ (.slice Ao156 x336004_2.length co156) ∧ ax k_ (.slice Ao127 t340.length co127) ∧ ax k_ (.slice Ao134 t347.length co134) ∧ ax k_ (.slice Ao152 y391.length co152) ∧ ax k_ (.slice Ao153 y394.length co153) ∧ ax k_ (.slice Ao164 y397.length co164) ∧ some k_ ≠ (v404 : Value).ownBlock)) (uR (Kd.R_mono HO346.out (fun _ hk => ⟨⟨hk.1.1.1, ⟨hk.1.1.2.2.1, ⟨hk.1.1.2.2.2.1, ⟨hk.1.1.2.2.2.2.1, ⟨hk.1.1.2.2.2.2.2.1, ⟨hk.1.1.2.2.2.2.2.2, ⟨hk.1.2, hk.2⟩⟩⟩⟩⟩⟩⟩, hk.1.1.2.1⟩))) hg hat)
          replace HO349 := zA (Kd.R_after (ok := (fun k_ => (w.heap.size ≤ k_) ∧ ax k_ (.slice Ao156 x336004_2.length co156) ∧ ax k_ (.slice Ao127 t340.length co127) ∧ ax k_ (.slice Ao132 y344.length co132) ∧ ax k_ (.slice Ao152 y391.length co152) ∧ ax k_ (.slice Ao153 y394.length co153) ∧ ax k_ (.slice Ao164 y397.length co164) ∧ some k_ ≠ (v404 : Value).ownBlock)) (uR (Kd.R_mono HO349.out (fun _ hk => ⟨⟨hk.1.1.1, ⟨hk.1.1.2.2.1, ⟨hk.1.1.2.2.2.1, ⟨hk.1.1.2.2.2.2.1, ⟨hk.1.1.2.2.2.2.2.1, ⟨hk.1.1.2.2.2.2.2.2, ⟨hk.1.2, hk.2⟩⟩⟩⟩⟩⟩⟩, hk.1.1.2.1⟩))) hg hat)
          replace HO387 := zA (R_afterv (ok := (fun k_ => (w.heap.size ≤ k_) ∧ ax k_ (.slice Ao156 x336004_2.length co156) ∧ ax k_ (.slice Ao127 t340.length co127) ∧ ax k_ (.slice Ao132 y344.length co132) ∧ ax k_ (.slice Ao134 t347.length co134) ∧ ax k_ (.slice Ao146 y388.length co146) ∧ ax k_ (.slice Ao152 y391.length co152) ∧ ax k_ (.slice Ao153 y394.length co153) ∧ ax k_ (.slice Ao164 y397.length co164) ∧ some k_ ≠ (v404 : Value).ownBlock ∧ k_ ≠ gb327 ∧ k_ ≠ gb328 ∧ k_ ≠ gb335)) (uR (Kd.R_mono HO387.out (fun _ hk => ⟨⟨hk.1.1.1, ⟨hk.1.1.2.2.1, ⟨hk.1.1.2.2.2.1, ⟨hk.1.1.2.2.2.2.1, ⟨hk.1.1.2.2.2.2.2.1, ⟨hk.1.1.2.2.2.2.2.2.1, ⟨hk.1.1.2.2.2.2.2.2.2.1, ⟨hk.1.1.2.2.2.2.2.2.2.2.1, ⟨hk.1.2, ⟨hk.2, ⟨hk.1.1.2.2.2.2.2.2.2.2.2.1, ⟨hk.1.1.2.2.2.2.2.2.2.2.2.2.1, hk.1.1.2.2.2.2.2.2.2.2.2.2.2⟩⟩⟩⟩⟩⟩⟩⟩⟩⟩⟩⟩, hk.1.1.2.1⟩))) hg hat)
          replace HO390 := zA (R_afterv (ok := (fun k_ => (w.heap.size ≤ k_) ∧ ax k_ (.slice Ao156 x336004_2.length co156) ∧ ax k_ (.slice Ao127 t340.length co127) ∧ ax k_ (.slice Ao132 y344.length co132) ∧ ax k_ (.slice Ao134 t347.length co134) ∧ ax k_ (.slice Ao152 y391.length co152) ∧ ax k_ (.slice Ao153 y394.length co153) ∧ ax k_ (.slice Ao164 y397.length co164) ∧ some k_ ≠ (v404 : Value).ownBlock ∧ k_ ≠ gb327 ∧ k_ ≠ gb328 ∧ k_ ≠ gb335)) (uR (Kd.R_mono HO390.out (fun _ hk => ⟨⟨hk.1.1.1, ⟨hk.1.1.2.2.1, ⟨hk.1.1.2.2.2.1, ⟨hk.1.1.2.2.2.2.1, ⟨hk.1.1.2.2.2.2.2.1, ⟨hk.1.1.2.2.2.2.2.2.1, ⟨hk.1.1.2.2.2.2.2.2.2.1, ⟨hk.1.2, ⟨hk.2, ⟨hk.1.1.2.2.2.2.2.2.2.2.1, ⟨hk.1.1.2.2.2.2.2.2.2.2.2.1, hk.1.1.2.2.2.2.2.2.2.2.2.2⟩⟩⟩⟩⟩⟩⟩⟩⟩⟩⟩, hk.1.1.2.1⟩))) hg hat)
          replace HO393 := zA (Kd.R_after (ok := (fun k_ => (w.heap.size ≤ k_) ∧ ax k_ (.slice Ao156 x336004_2.length co156) ∧ ax k_ (.slice Ao127 t340.length co127) ∧ ax k_ (.slice Ao132 y344.length co132) ∧ ax k_ (.slice Ao134 t347.length co134) ∧ ax k_ (.slice Ao153 y394.length co153) ∧ ax k_ (.slice Ao164 y397.length co164) ∧ some k_ ≠ (v404 : Value).ownBlock)) (uR (Kd.R_mono HO393.out (fun _ hk => ⟨⟨hk.1.1.1, ⟨hk.1.1.2.2.1, ⟨hk.1.1.2.2.2.1, ⟨hk.1.1.2.2.2.2.1, ⟨hk.1.1.2.2.2.2.2.1, ⟨hk.1.1.2.2.2.2.2.2, ⟨hk.1.2, hk.2⟩⟩⟩⟩⟩⟩⟩, hk.1.1.2.1⟩))) hg hat)
          replace HO396 := zA (Kd.R_after (ok := (fun k_ => (w.heap.size ≤ k_) ∧ ax k_ (.slice Ao156 x336004_2.length co156) ∧ ax k_ (.slice Ao127 t340.length co127) ∧ ax k_ (.slice Ao132 y344.length co132) ∧ ax k_ (.slice Ao134 t347.length co134) ∧ ax k_ (.slice Ao152 y391.length co152) ∧ ax k_ (.slice Ao164 y397.length co164) ∧ some k_ ≠ (v404 : Value).ownBlock)) (uR (Kd.R_mono HO396.out (fun _ hk => ⟨⟨hk.1.1.1, ⟨hk.1.1.2.2.1, ⟨hk.1.1.2.2.2.1, ⟨hk.1.1.2.2.2.2.1, ⟨hk.1.1.2.2.2.2.2.1, ⟨hk.1.1.2.2.2.2.2.2, ⟨hk.1.2, hk.2⟩⟩⟩⟩⟩⟩⟩, hk.1.1.2.1⟩))) hg hat)
          replace HO399 := zA (Kd.R_after (ok := (fun k_ => (w.heap.size ≤ k_) ∧ ax k_ (.slice Ao156 x336004_2.length co156) ∧ ax k_ (.slice Ao127 t340.length co127) ∧ ax k_ (.slice Ao132 y344.length co132) ∧ ax k_ (.slice Ao134 t347.length co134) ∧ ax k_ (.slice Ao152 y391.length co152) ∧ ax k_ (.slice Ao153 y394.length co153) ∧ some k_ ≠ (v404 : Value).ownBlock)) (uR (Kd.R_mono HO399.out (fun _ hk => ⟨⟨hk.1.1.1.1.1.1.1.1.1, ⟨hk.1.1.1.1.1.1.2, ⟨hk.1.1.1.1.1.2, ⟨hk.1.1.1.1.2, ⟨hk.1.1.1.2, ⟨hk.1.1.2, ⟨hk.1.2, hk.2⟩⟩⟩⟩⟩⟩⟩, hk.1.1.1.1.1.1.1.2⟩))) hg hat)
          replace HO405 := zA (Kd.R_after (ok := (fun k_ => (w.heap.size ≤ k_) ∧ ax k_ (.slice Ao156 x336004_2.length co156) ∧ ax k_ (.slice Ao127 t340.length co127) ∧ ax k_ (.slice Ao132 y344.length co132) ∧ ax k_ (.slice Ao134 t347.length co134) ∧ ax k_ (.slice Ao152 y391.length co152) ∧ ax k_ (.slice Ao153 y394.length co153) ∧ ax k_ (.slice Ao164 y397.length co164))) (uR (Kd.R_mono HO405.out (fun _ hk => ⟨⟨hk.1.1.1.1.1.1.1.1.1, ⟨hk.1.1.1.1.1.1.2, ⟨hk.1.1.1.1.1.2, ⟨hk.1.1.1.1.2, ⟨hk.1.1.1.2, ⟨hk.1.1.2, ⟨hk.1.2, hk.2⟩⟩⟩⟩⟩⟩⟩, hk.1.1.1.1.1.1.1.2⟩))) hg hat)
          replace HB := zA (hb)
          have HO402 := zA (ho)
          clear HO_336003
          clear ho hb hg hat
          refine hK.out _ _ ⟨bcu BK335 0, bcu BK335 1, bcu BK335 2, bcu BK335 3, bcu BK335 4⟩ (fun hHeld => ?_)
          clear hK K
          refine no_ 98 ?_
          refine pu_ 12 105 (bl 18 6143) HT_ ?_
          refine pu_ 13 106 (bl 18 14335) HT_ ?_
          exact norm_ (by simp only [putAll, Act.put, ls, lz, ln]) (hCont (.slice Ao164 y397.length co164, v401, v404) _ ⟨hHeld, (by (with_reducible repeat (first | apply Kd.V_alloc | apply Kd.V_drewN | apply Kd.V_drew)); exact Kd.V_mono HL339_0.out (fun _ hk => ⟨hk.1.1, ⟨hk.1.2.2.1, ⟨hk.1.2.2.2.1, ⟨hk.1.2.2.2.2.1, ⟨hk.1.2.2.2.2.2.1, ⟨hk.1.2.2.2.2.2.2.1, ⟨hk.1.2.2.2.2.2.2.2.1, ⟨hk.1.2.2.2.2.2.2.2.2.1, ⟨hk.1.2.2.2.2.2.2.2.2.2.1, ⟨hk.2, ⟨hk.1.2.2.2.2.2.2.2.2.2.2.1, ⟨hk.1.2.1, ⟨hk.1.2.2.2.2.2.2.2.2.2.2.2.1, ⟨hk.1.2.2.2.2.2.2.2.2.2.2.2.2.1, hk.1.2.2.2.2.2.2.2.2.2.2.2.2.2⟩⟩⟩⟩⟩⟩⟩⟩⟩⟩⟩⟩⟩⟩)), (uR (Kd.R_mono HO342.out (fun _ hk => ⟨hk.1.1, ⟨hk.1.2.2.1, ⟨hk.1.2.2.2.1, ⟨hk.1.2.2.2.2.1, ⟨hk.1.2.2.2.2.2.1, ⟨hk.1.2.2.2.2.2.2.1, ⟨hk.2, ⟨hk.1.2.2.2.2.2.2.2, hk.1.2.1⟩⟩⟩⟩⟩⟩⟩⟩))), (uR (Kd.R_mono HO346.out (fun _ hk => ⟨hk.1.1, ⟨hk.1.2.2.1, ⟨hk.1.2.2.2.1, ⟨hk.1.2.2.2.2.1, ⟨hk.1.2.2.2.2.2.1, ⟨hk.1.2.2.2.2.2.2.1, ⟨hk.2, ⟨hk.1.2.2.2.2.2.2.2, hk.1.2.1⟩⟩⟩⟩⟩⟩⟩⟩))), (uR (Kd.R_mono HO349.out (fun _ hk => ⟨hk.1.1, ⟨hk.1.2.2.1, ⟨hk.1.2.2.2.1, ⟨hk.1.2.2.2.2.1, ⟨hk.1.2.2.2.2.2.1, ⟨hk.1.2.2.2.2.2.2.1, ⟨hk.2, ⟨hk.1.2.2.2.2.2.2.2, hk.1.2.1⟩⟩⟩⟩⟩⟩⟩⟩))), (uR (Kd.R_mono HO387.out (fun _ hk => ⟨hk.1.1, ⟨hk.1.2.2.1, ⟨hk.1.2.2.2.1, ⟨hk.1.2.2.2.2.1, ⟨hk.1.2.2.2.2.2.1, ⟨hk.1.2.2.2.2.2.2.1, ⟨hk.1.2.2.2.2.2.2.2.1, ⟨hk.1.2.2.2.2.2.2.2.2.1, ⟨hk.2, ⟨hk.1.2.2.2.2.2.2.2.2.2.1, ⟨hk.1.2.1, ⟨hk.1.2.2.2.2.2.2.2.2.2.2.1, ⟨hk.1.2.2.2.2.2.2.2.2.2.2.2.1, hk.1.2.2.2.2.2.2.2.2.2.2.2.2⟩⟩⟩⟩⟩⟩⟩⟩⟩⟩⟩⟩⟩))), (uR (Kd.R_mono HO390.out (fun _ hk => ⟨hk.1.1, ⟨hk.1.2.2.1, ⟨hk.1.2.2.2.1, ⟨hk.1.2.2.2.2.1, ⟨hk.1.2.2.2.2.2.1, ⟨hk.1.2.2.2.2.2.2.1, ⟨hk.1.2.2.2.2.2.2.2.1, ⟨hk.2, ⟨hk.1.2.2.2.2.2.2.2.2.1, ⟨hk.1.2.1, ⟨hk.1.2.2.2.2.2.2.2.2.2.1, ⟨hk.1.2.2.2.2.2.2.2.2.2.2.1, hk.1.2.2.2.2.2.2.2.2.2.2.2⟩⟩⟩⟩⟩⟩⟩⟩⟩⟩⟩⟩))), (uR (Kd.R_mono HO393.out (fun _ hk => ⟨hk.1.1, ⟨hk.1.2.2.1, ⟨hk.1.2.2.2.1, ⟨hk.1.2.2.2.2.1, ⟨hk.1.2.2.2.2.2.1, ⟨hk.1.2.2.2.2.2.2.1, ⟨hk.2, ⟨hk.1.2.2.2.2.2.2.2, hk.1.2.1⟩⟩⟩⟩⟩⟩⟩⟩))), (uR (Kd.R_mono HO396.out (fun _ hk => ⟨hk.1.1, ⟨hk.1.2.2.1, ⟨hk.1.2.2.2.1, ⟨hk.1.2.2.2.2.1, ⟨hk.1.2.2.2.2.2.1, ⟨hk.1.2.2.2.2.2.2.1, ⟨hk.2, ⟨hk.1.2.2.2.2.2.2.2, hk.1.2.1⟩⟩⟩⟩⟩⟩⟩⟩))), (uR (Kd.R_mono HO399.out (fun _ hk => ⟨hk.1.1, ⟨hk.1.2.2.1, ⟨hk.1.2.2.2.1, ⟨hk.1.2.2.2.2.1, ⟨hk.1.2.2.2.2.2.1, ⟨hk.1.2.2.2.2.2.2.1, ⟨hk.2, ⟨hk.1.2.2.2.2.2.2.2, hk.1.2.1⟩⟩⟩⟩⟩⟩⟩⟩))), (uR (Kd.R_mono HO402.out (fun _ hk => ⟨hk.1, ⟨hk.2.2.1, ⟨hk.2.2.2.1, ⟨hk.2.2.2.2.1, ⟨hk.2.2.2.2.2.1, ⟨hk.2.2.2.2.2.2.1, ⟨hk.2.2.2.2.2.2.2.1, ⟨hk.2.2.2.2.2.2.2.2, hk.2.1⟩⟩⟩⟩⟩⟩⟩⟩))), (uR (Kd.R_mono HO405.out (fun _ hk => ⟨hk.1.1, ⟨hk.1.2.2.1, ⟨hk.1.2.2.2.1, ⟨hk.1.2.2.2.2.1, ⟨hk.1.2.2.2.2.2.1, ⟨hk.1.2.2.2.2.2.2.1, ⟨hk.1.2.2.2.2.2.2.2, ⟨hk.2, hk.1.2.1⟩⟩⟩⟩⟩⟩⟩⟩))), (uR (Kd.R_mono HO_336004.out (fun _ hk => ⟨hk.1.1, ⟨hk.1.2.1, ⟨hk.1.2.2.1, ⟨hk.1.2.2.2.1, ⟨hk.1.2.2.2.2.1, ⟨hk.1.2.2.2.2.2.1, ⟨hk.1.2.2.2.2.2.2.1, ⟨hk.2, hk.1.2.2.2.2.2.2.2⟩⟩⟩⟩⟩⟩⟩⟩))), (by (with_reducible repeat (first | apply Kd.V_alloc | apply Kd.V_drewN | apply Kd.V_drew)); exact Kd.V_mono HO_8.out (fun _ hk => ⟨hk.1.1, ⟨hk.1.2.2.1, ⟨hk.1.2.2.2.1, ⟨hk.1.2.2.2.2.1, ⟨hk.1.2.2.2.2.2.1, ⟨hk.1.2.2.2.2.2.2.1, ⟨hk.1.2.2.2.2.2.2.2.1, ⟨hk.1.2.2.2.2.2.2.2.2.1, ⟨hk.1.2.2.2.2.2.2.2.2.2.1, ⟨hk.2, ⟨hk.1.2.2.2.2.2.2.2.2.2.2.1, ⟨hk.1.2.1, ⟨hk.1.2.2.2.2.2.2.2.2.2.2.2.1, ⟨hk.1.2.2.2.2.2.2.2.2.2.2.2.2.1, hk.1.2.2.2.2.2.2.2.2.2.2.2.2.2⟩⟩⟩⟩⟩⟩⟩⟩⟩⟩⟩⟩⟩⟩)), (uB BK327.out), (uB BK328.out), (uB BK335.out), (uH HB.out)⟩)
        ·skip
         refine Kd.R_lit_step (Kd.int .i64) _ 2 ?hg (N := 103) ?hd (xs := ([t354] : List Int)) (inner := [.int .i64 t354]) (ok := fun _ => True) (okp := fun _ => True) ?hr ?hp (fun _ hk => hk) trivial (Below.refl _ _) (Nat.le_refl _) (by simp) ?_; (case hd => rfl); (case hg => rfl); (case hr => first | (go_simp; done) | (go_simp; rfl)); (case hp => exact (Reps.one (show Kd.M (Kd.int .i64) _ _ _ t354 [.int .i64 t354] from rfl) (Reps.none _ _)))
         intro v404 w159 ho160 hb hg_ hnew_
         clear hg_ hnew_
         (first | rw [← Ny403.out] at ho160 | (simp only [Int.reduceToNat] at ho160; rw [← Ny403.out] at ho160))
         replace HO_8 := zA (Kd.V_elder' (by (with_reducible repeat (first | apply Kd.V_alloc | apply Kd.V_drewN | apply Kd.V_drew)); exact HO_8.out) (Kd.R_base ho160) hb)
         replace HL339_0 := zA (Kd.V_elder' (by (with_reducible repeat (first | apply Kd.V_alloc | apply Kd.V_drewN | apply Kd.V_drew)); exact HL339_0.out) (Kd.R_base ho160) hb)
         replace HO387 := zA (Kd.R_elder' (uR HO387.out) (Kd.R_base ho160) hb)
         replace HO390 := zA (Kd.R_elder' (uR HO390.out) (Kd.R_base ho160) hb)
         have HO405 := zA (Kd.R_lower (Kd.R_new' (Kd.R_new' (Kd.R_new' (Kd.R_new' (Kd.R_new' (Kd.R_new' (Kd.R_new' (Kd.R_newM (M := fun k_ => (w.heap.size ≤ k_)) ho160 (below_size (uH HB.out)) (fun k_ h_ => h_)) (Kd.R_lt (uR HO_336003.out))) (Kd.R_lt (uR HO_336004.out))) (Kd.R_lt (uR HO342.out))) (Kd.R_lt (uR HO346.out))) (Kd.R_lt (uR HO349.out))) (Kd.R_lt (uR HO393.out))) (Kd.R_lt (uR HO396.out))) (below_size (uH HB.out)))
         replace HO_336003 := zA (Kd.R_elder' (uR HO_336003.out) (Kd.R_base ho160) hb)
         replace HO_336004 := zA (Kd.R_elder' (uR HO_336004.out) (Kd.R_base ho160) hb)
         replace HO342 := zA (Kd.R_elder' (uR HO342.out) (Kd.R_base ho160) hb)
         replace HO346 := zA (Kd.R_elder' (uR HO346.out) (Kd.R_base ho160) hb)
         replace HO349 := zA (Kd.R_elder' (uR HO349.out) (Kd.R_base ho160) hb)
         replace HO393 := zA (Kd.R_elder' (uR HO393.out) (Kd.R_base ho160) hb)
         replace HO396 := zA (Kd.R_elder' (uR HO396.out) (Kd.R_base ho160) hb)
         replace BK327 := xB BK327 hb
         replace BK328 := xB BK328 hb
         replace BK335 := xB BK335 hb
         replace HB := xH HB hb
         clear hb ho160
         refine hK.out _ _ ⟨bcu BK335 0, bcu BK335 1, bcu BK335 2, bcu BK335 3, bcu BK335 4⟩ (fun hHeld => ?_)
         clear hK K
         refine no_ 103 ?_
         refine on_ 4 (some 97) (bl 18 2015) HT_ (fun K hK => ?_)
         refine Kd.R_lit_step (Kd.int .i64) _ 2 ?hg (N := 97) ?hd (xs := ([t351] : List Int)) (inner := [.int .i64 t351]) (ok := fun _ => True) (okp := fun _ => True) ?hr ?hp (fun _ hk => hk) trivial (Below.refl _ _) (Nat.le_refl _) (by simp) ?_; (case hd => rfl); (case hg => rfl); (case hr => first | (go_simp; done) | (go_simp; rfl)); (case hp => exact (Reps.one (show Kd.M (Kd.int .i64) _ _ _ t351 [.int .i64 t351] from rfl) (Reps.none _ _)))
         intro v398 w161 ho162 hb hg_ hnew_
         clear hg_ hnew_
         (first | rw [← Ny397.out] at ho162 | (simp only [Int.reduceToNat] at ho162; rw [← Ny397.out] at ho162))
         replace HO_8 := zA (Kd.V_elder' (by (with_reducible repeat (first | apply Kd.V_alloc | apply Kd.V_drewN | apply Kd.V_drew)); exact HO_8.out) (Kd.R_base ho162) hb)
         replace HL339_0 := zA (Kd.V_elder' (by (with_reducible repeat (first | apply Kd.V_alloc | apply Kd.V_drewN | apply Kd.V_drew)); exact HL339_0.out) (Kd.R_base ho162) hb)
         replace HO387 := zA (Kd.R_elder' (uR HO387.out) (Kd.R_base ho162) hb)
         replace HO390 := zA (Kd.R_elder' (uR HO390.out) (Kd.R_base ho162) hb)
         have HO399 := zA (Kd.R_lower (Kd.R_new' (Kd.R_new' (Kd.R_new' (Kd.R_new' (Kd.R_new' (Kd.R_new' (Kd.R_new' (Kd.R_new' (Kd.R_newM (M := fun k_ => (w.heap.size ≤ k_)) ho162 (below_size (uH HB.out)) (fun k_ h_ => h_)) (Kd.R_lt (uR HO_336003.out))) (Kd.R_lt (uR HO_336004.out))) (Kd.R_lt (uR HO342.out))) (Kd.R_lt (uR HO346.out))) (Kd.R_lt (uR HO349.out))) (Kd.R_lt (uR HO393.out))) (Kd.R_lt (uR HO396.out))) (Kd.R_lt (uR HO405.out))) (below_size (uH HB.out)))
         replace HO_336003 := zA (Kd.R_elder' (uR HO_336003.out) (Kd.R_base ho162) hb)
         replace HO_336004 := zA (Kd.R_elder' (uR HO_336004.out) (Kd.R_base ho162) hb)
         replace HO342 := zA (Kd.R_elder' (uR HO342.out) (Kd.R_base ho162) hb)
         replace HO346 := zA (Kd.R_elder' (uR HO346.out) (Kd.R_base ho162) hb)
         replace HO349 := zA (Kd.R_elder' (uR HO349.out) (Kd.R_base ho162) hb)
         replace HO393 := zA (Kd.R_elder' (uR HO393.out) (Kd.R_base ho162) hb)
         replace HO396 := zA (Kd.R_elder' (uR HO396.out) (Kd.R_base ho162) hb)
         replace HO405 := zA (Kd.R_elder' (uR HO405.out) (Kd.R_base ho162) hb)
         replace BK327 := xB BK327 hb
         replace BK328 := xB BK328 hb
         replace BK335 := xB BK335 hb
         replace HB := xH HB hb
         clear hb ho162
         obtain ⟨Ao164, co164, eo164⟩ := Kd.R_slice HO399.out
         (first | subst eo164 | (injection eo164 with f1_ f2_ f3_; have f4_ := f1_.symm; have f5_ := f3_.symm; clear f1_ f2_ f3_; subst f4_; subst f5_))
         refine hK.out _ _ ⟨bcu BK335 0, bcu BK335 1, bcu BK335 2, bcu BK335 3, bcu BK335 4⟩ (fun hHeld => ?_)
         clear hK K
         refine no_ 97 ?_
         refine on_ 5 (some 98) (bl 18 2047) HT_ (fun K hK => ?_)
         refine Kd.R_append_rows_step (Kd.int .i64) (w0 := w) w.heap.size (by rfl) (.tmp 95) (.tmp 97) 22 2 (.int .i64 0) 8 rfl Try.underlying22 info2 rfl (by decide) (by omega) (.slice Ao155 x336003_2.length co155) x336003_2 y397 _ _ _ (fun k_ => (w.heap.size ≤ k_) ∧ ax k_ (.slice Ao156 x336004_2.length co156) ∧ ax k_ (.slice Ao127 t340.length co127) ∧ ax k_ (.slice Ao132 y344.length co132) ∧ ax k_ (.slice Ao134 t347.length co134) ∧ ax k_ (.slice Ao152 y391.length co152) ∧ ax k_ (.slice Ao153 y394.length co153) ∧ some k_ ≠ (v404 : Value).ownBlock ∧ ax k_ (.slice Ao164 y397.length co164)) (fun _ => False) rfl rfl ?aO ?aR (fun _ _ h => h) (fun _ h => h.elim) ?aF ?aB ?aS ?aL ?_
         (case aR => exact uC ((Kd.R_reads' HO399.out).2.2))
         (case aB => exact (uH HB.out))
         (case aF => exact (fun k_ hk => ⟨(Nat.le_trans (below_size (uH HB.out)) hk), Kd.fresh' (Kd.R_lt (uR HO_336004.out)) k_ hk, Kd.fresh' (Kd.R_lt (uR HO342.out)) k_ hk, Kd.fresh' (Kd.R_lt (uR HO346.out)) k_ hk, Kd.fresh' (Kd.R_lt (uR HO349.out)) k_ hk, Kd.fresh' (Kd.R_lt (uR HO393.out)) k_ hk, Kd.fresh' (Kd.R_lt (uR HO396.out)) k_ hk, Kd.fresh' (Kd.R_lt (uR HO405.out)) k_ hk, Kd.fresh' (Kd.R_lt (uR HO399.out)) k_ hk⟩))
         (case aO => exact (uR (Kd.R_mono HO_336003.out (fun _ hk => ⟨hk.1.1.1, ⟨hk.1.1.2.1, ⟨hk.1.1.2.2.1, ⟨hk.1.1.2.2.2.1, ⟨hk.1.1.2.2.2.2.1, ⟨hk.1.1.2.2.2.2.2.1, ⟨hk.1.1.2.2.2.2.2.2, ⟨hk.1.2, hk.2⟩⟩⟩⟩⟩⟩⟩⟩))))
         (case aS => exact (below_size (uH HB.out)))
         (case aL => have := LMc118.out; omega)
         intro v401 w163 ho hb hg hat
         rw [← Ny400.out] at ho
         replace HO_8 := zA (Kd.V_afterv (ok := (fun k_ => (w.heap.size ≤ k_) ∧ ax k_ (.slice Ao156 x336004_2.length co156) ∧ ax k_ (.slice Ao127 t340.length co127) ∧ ax k_ (.slice Ao132 y344.length co132) ∧ ax k_ (.slice Ao134 t347.length co134) ∧ ax k_ (.slice Ao145 y385.length co145) ∧ ax k_ (.slice Ao146 y388.length co146) ∧ ax k_ (.slice Ao152 y391.length co152) ∧ ax k_ (.slice Ao153 y394.length co153) ∧ some k_ ≠ (v404 : Value).ownBlock ∧ ax k_ (.slice Ao164 y397.length co164) ∧ k_ ≠ gb327 ∧ k_ ≠ gb328 ∧ k_ ≠ gb335)) (by (with_reducible repeat (first | apply Kd.V_alloc | apply Kd.V_drewN | apply Kd.V_drew)); exact Kd.V_mono HO_8.out (fun _ hk => ⟨⟨hk.1.1.1, ⟨hk.1.1.2.2.1, ⟨hk.1.1.2.2.2.1, ⟨hk.1.1.2.2.2.2.1, ⟨hk.1.1.2.2.2.2.2.1, ⟨hk.1.1.2.2.2.2.2.2.1, ⟨hk.1.1.2.2.2.2.2.2.2.1, ⟨hk.1.1.2.2.2.2.2.2.2.2.1, ⟨hk.1.1.2.2.2.2.2.2.2.2.2.1, ⟨hk.1.2, ⟨hk.2, ⟨hk.1.1.2.2.2.2.2.2.2.2.2.2.1, ⟨hk.1.1.2.2.2.2.2.2.2.2.2.2.2.1, hk.1.1.2.2.2.2.2.2.2.2.2.2.2.2⟩⟩⟩⟩⟩⟩⟩⟩⟩⟩⟩⟩⟩, hk.1.1.2.1⟩)) hg hat)
         replace HO_336004 := zA (Kd.R_after (ok := (fun k_ => (w.heap.size ≤ k_) ∧ ax k_ (.slice Ao127 t340.length co127) ∧ ax k_ (.slice Ao132 y344.length co132) ∧ ax k_ (.slice Ao134 t347.length co134) ∧ ax k_ (.slice Ao152 y391.length co152) ∧ ax k_ (.slice Ao153 y394.length co153) ∧ some k_ ≠ (v404 : Value).ownBlock ∧ ax k_ (.slice Ao164 y397.length co164))) (uR (Kd.R_mono HO_336004.out (fun _ hk => ⟨⟨hk.1.1.1, ⟨hk.1.1.2.2.1, ⟨hk.1.1.2.2.2.1, ⟨hk.1.1.2.2.2.2.1, ⟨hk.1.1.2.2.2.2.2.1, ⟨hk.1.1.2.2.2.2.2.2, ⟨hk.1.2, hk.2⟩⟩⟩⟩⟩⟩⟩, hk.1.1.2.1⟩))) hg hat)
         replace BK327 := zA (blk_grown (g := gb327) (o := .cells #[.int .i64 a0_0, .slice (some ad352) l0_1.length c0_1] 40 (0, 0)) (uB BK327.out) hg (Kd.R_ne HO_336003.out BK327.out (by decide)))
         replace BK328 := zA (blk_grown (g := gb328) (o := .cells #[.slice none 0 0, .slice none 0 0, .int .i64 0, .slice none 0 0, .slice none 0 0] 95 (0, 0)) (uB BK328.out) hg (Kd.R_ne HO_336003.out BK328.out (by decide)))
         replace BK335 := zA (blk_grown (g := gb335) (o := .cells #[.slice Ao146 y388.length co146, .slice Ao153 y394.length co153, .int .i64 a0_0, .slice Ao155 x336003_2.length co155, .slice Ao156 x336004_2.length co156] 95 (0, 0)) (uB BK335.out) hg (Kd.R_ne HO_336003.out BK335.out (by decide)))
         replace HL339_0 := zA (Kd.V_afterv (ok := (fun k_ => (w.heap.size ≤ k_) ∧ ax k_ (.slice Ao156 x336004_2.length co156) ∧ ax k_ (.slice Ao127 t340.length co127) ∧ ax k_ (.slice Ao132 y344.length co132) ∧ ax k_ (.slice Ao134 t347.length co134) ∧ ax k_ (.slice Ao145 y385.length co145) ∧ ax k_ (.slice Ao146 y388.length co146) ∧ ax k_ (.slice Ao152 y391.length co152) ∧ ax k_ (.slice Ao153 y394.length co153) ∧ some k_ ≠ (v404 : Value).ownBlock ∧ ax k_ (.slice Ao164 y397.length co164) ∧ k_ ≠ gb327 ∧ k_ ≠ gb328 ∧ k_ ≠ gb335)) (by (with_reducible repeat (first | apply Kd.V_alloc | apply Kd.V_drewN | apply Kd.V_drew)); exact Kd.V_mono HL339_0.out (fun _ hk => ⟨⟨hk.1.1.1, ⟨hk.1.1.2.2.1, ⟨hk.1.1.2.2.2.1, ⟨hk.1.1.2.2.2.2.1, ⟨hk.1.1.2.2.2.2.2.1, ⟨hk.1.1.2.2.2.2.2.2.1, ⟨hk.1.1.2.2.2.2.2.2.2.1, ⟨hk.1.1.2.2.2.2.2.2.2.2.1, ⟨hk.1.1.2.2.2.2.2.2.2.2.2.1, ⟨hk.1.2, ⟨hk.2, ⟨hk.1.1.2.2.2.2.2.2.2.2.2.2.1, ⟨hk.1.1.2.2.2.2.2.2.2.2.2.2.2.1, hk.1.1.2.2.2.2.2.2.2.2.2.2.2.2⟩⟩⟩⟩⟩⟩⟩⟩⟩⟩⟩⟩⟩, hk.1.1.2.1⟩)) hg hat)
         replace HO342 := zA (Kd.R_after (ok := (fun k_ => (w.heap.size ≤ k_) ∧ ax k_ (.slice Ao156 x336004_2.length co156) ∧ ax k_ (.slice Ao132 y344.length co132) ∧ ax k_ (.slice Ao134 t347.length co134) ∧ ax k_ (.slice Ao152 y391.length co152) ∧ ax k_ (.slice Ao153 y394.length co153) ∧ some k_ ≠ (v404 : Value).ownBlock ∧ ax k_ (.slice Ao164 y397.length co164))) (uR (Kd.R_mono HO342.out (fun _ hk => ⟨⟨hk.1.1.1, ⟨hk.1.1.2.2.1, ⟨hk.1.1.2.2.2.1, ⟨hk.1.1.2.2.2.2.1, ⟨hk.1.1.2.2.2.2.2.1, ⟨hk.1.1.2.2.2.2.2.2, ⟨hk.1.2, hk.2⟩⟩⟩⟩⟩⟩⟩, hk.1.1.2.1⟩))) hg hat)
         replace HO346 := zA (Kd.R_after (ok := (fun k_ => (w.heap.size ≤ k_) ∧ ax k_ (.slice Ao156 x336004_2.length co156) ∧ ax k_ (.slice Ao127 t340.length co127) ∧ ax k_ (.slice Ao134 t347.length co134) ∧ ax k_ (.slice Ao152 y391.length co152) ∧ ax k_ (.slice Ao153 y394.length co153) ∧ some k_ ≠ (v404 : Value).ownBlock ∧ ax k_ (.slice Ao164 y397.length co164))) (uR (Kd.R_mono HO346.out (fun _ hk => ⟨⟨hk.1.1.1, ⟨hk.1.1.2.2.1, ⟨hk.1.1.2.2.2.1, ⟨hk.1.1.2.2.2.2.1, ⟨hk.1.1.2.2.2.2.2.1, ⟨hk.1.1.2.2.2.2.2.2, ⟨hk.1.2, hk.2⟩⟩⟩⟩⟩⟩⟩, hk.1.1.2.1⟩))) hg hat)
         replace HO349 := zA (Kd.R_after (ok := (fun k_ => (w.heap.size ≤ k_) ∧ ax k_ (.slice Ao156 x336004_2.length co156) ∧ ax k_ (.slice Ao127 t340.length co127) ∧ ax k_ (.slice Ao132 y344.length co132) ∧ ax k_ (.slice Ao152 y391.length co152) ∧ ax k_ (.slice Ao153 y394.length co153) ∧ some k_ ≠ (v404 : Value).ownBlock ∧ ax k_ (.slice Ao164 y397.length co164))) (uR (Kd.R_mono HO349.out (fun _ hk => ⟨⟨hk.1.1.1, ⟨hk.1.1.2.2.1, ⟨hk.1.1.2.2.2.1, ⟨hk.1.1.2.2.2.2.1, ⟨hk.1.1.2.2.2.2.2.1, ⟨hk.1.1.2.2.2.2.2.2, ⟨hk.1.2, hk.2⟩⟩⟩⟩⟩⟩⟩, hk.1.1.2.1⟩))) hg hat)
         replace HO387 := zA (R_afterv (ok := (fun k_ => (w.heap.size ≤ k_) ∧ ax k_ (.slice Ao156 x336004_2.length co156) ∧ ax k_ (.slice Ao127 t340.length co127) ∧ ax k_ (.slice Ao132 y344.length co132) ∧ ax k_ (.slice Ao134 t347.length co134) ∧ ax k_ (.slice Ao146 y388.length co146) ∧ ax k_ (.slice Ao152 y391.length co152) ∧ ax k_ (.slice Ao153 y394.length co153) ∧ some k_ ≠ (v404 : Value).ownBlock ∧ ax k_ (.slice Ao164 y397.length co164) ∧ k_ ≠ gb327 ∧ k_ ≠ gb328 ∧ k_ ≠ gb335)) (uR (Kd.R_mono HO387.out (fun _ hk => ⟨⟨hk.1.1.1, ⟨hk.1.1.2.2.1, ⟨hk.1.1.2.2.2.1, ⟨hk.1.1.2.2.2.2.1, ⟨hk.1.1.2.2.2.2.2.1, ⟨hk.1.1.2.2.2.2.2.2.1, ⟨hk.1.1.2.2.2.2.2.2.2.1, ⟨hk.1.1.2.2.2.2.2.2.2.2.1, ⟨hk.1.2, ⟨hk.2, ⟨hk.1.1.2.2.2.2.2.2.2.2.2.1, ⟨hk.1.1.2.2.2.2.2.2.2.2.2.2.1, hk.1.1.2.2.2.2.2.2.2.2.2.2.2⟩⟩⟩⟩⟩⟩⟩⟩⟩⟩⟩⟩, hk.1.1.2.1⟩))) hg hat)
         replace HO390 := zA (R_afterv (ok := (fun k_ => (w.heap.size ≤ k_) ∧ ax k_ (.slice Ao156 x336004_2.length co156) ∧ ax k_ (.slice Ao127 t340.length co127) ∧ ax k_ (.slice Ao132 y344.length co132) ∧ ax k_ (.slice Ao134 t347.length co134) ∧ ax k_ (.slice Ao152 y391.length co152) ∧ ax k_ (.slice Ao153 y394.length co153) ∧ some k_ ≠ (v404 : Value).ownBlock ∧ ax k_ (.slice Ao164 y397.length co164) ∧ k_ ≠ gb327 ∧ k_ ≠ gb328 ∧ k_ ≠ gb335)) (uR (Kd.R_mono HO390.out (fun _ hk => ⟨⟨hk.1.1.1, ⟨hk.1.1.2.2.1, ⟨hk.1.1.2.2.2.1, ⟨hk.1.1.2.2.2.2.1, ⟨hk.1.1.2.2.2.2.2.1, ⟨hk.1.1.2.2.2.2.2.2.1, ⟨hk.1.1.2.2.2.2.2.2.2.1, ⟨hk.1.2, ⟨hk.2, ⟨hk.1.1.2.2.2.2.2.2.2.2.1, ⟨hk.1.1.2.2.2.2.2.2.2.2.2.1, hk.1.1.2.2.2.2.2.2.2.2.2.2⟩⟩⟩⟩⟩⟩⟩⟩⟩⟩⟩, hk.1.1.2.1⟩))) hg hat)
         replace HO393 := zA (Kd.R_after (ok := (fun k_ => (w.heap.size ≤ k_) ∧ ax k_ (.slice Ao156 x336004_2.length co156) ∧ ax k_ (.slice Ao127 t340.length co127) ∧ ax k_ (.slice Ao132 y344.length co132) ∧ ax k_ (.slice Ao134 t347.length co134) ∧ ax k_ (.slice Ao153 y394.length co153) ∧ some k_ ≠ (v404 : Value).ownBlock ∧ ax k_ (.slice Ao164 y397.length co164))) (uR (Kd.R_mono HO393.out (fun _ hk => ⟨⟨hk.1.1.1, ⟨hk.1.1.2.2.1, ⟨hk.1.1.2.2.2.1, ⟨hk.1.1.2.2.2.2.1, ⟨hk.1.1.2.2.2.2.2.1, ⟨hk.1.1.2.2.2.2.2.2, ⟨hk.1.2, hk.2⟩⟩⟩⟩⟩⟩⟩, hk.1.1.2.1⟩))) hg hat)
         replace HO396 := zA (Kd.R_after (ok := (fun k_ => (w.heap.size ≤ k_) ∧ ax k_ (.slice Ao156 x336004_2.length co156) ∧ ax k_ (.slice Ao127 t340.length co127) ∧ ax k_ (.slice Ao132 y344.length co132) ∧ ax k_ (.slice Ao134 t347.length co134) ∧ ax k_ (.slice Ao152 y391.length co152) ∧ some k_ ≠ (v404 : Value).ownBlock ∧ ax k_ (.slice Ao164 y397.length co164))) (uR (Kd.R_mono HO396.out (fun _ hk => ⟨⟨hk.1.1.1, ⟨hk.1.1.2.2.1, ⟨hk.1.1.2.2.2.1, ⟨hk.1.1.2.2.2.2.1, ⟨hk.1.1.2.2.2.2.2.1, ⟨hk.1.1.2.2.2.2.2.2, ⟨hk.1.2, hk.2⟩⟩⟩⟩⟩⟩⟩, hk.1.1.2.1⟩))) hg hat)
         replace HO405 := zA (Kd.R_after (ok := (fun k_ => (w.heap.size ≤ k_) ∧ ax k_ (.slice Ao156 x336004_2.length co156) ∧ ax k_ (.slice Ao127 t340.length co127) ∧ ax k_ (.slice Ao132 y344.length co132) ∧ ax k_ (.slice Ao134 t347.length co134) ∧ ax k_ (.slice Ao152 y391.length co152) ∧ ax k_ (.slice Ao153 y394.length co153) ∧ ax k_ (.slice Ao164 y397.length co164))) (uR (Kd.R_mono HO405.out (fun _ hk => ⟨⟨hk.1.1.1.1.1.1.1.1.1, ⟨hk.1.1.1.1.1.1.2, ⟨hk.1.1.1.1.1.2, ⟨hk.1.1.1.1.2, ⟨hk.1.1.1.2, ⟨hk.1.1.2, ⟨hk.1.2, hk.2⟩⟩⟩⟩⟩⟩⟩, hk.1.1.1.1.1.1.1.2⟩))) hg hat)
         replace HO399 := zA (Kd.R_after (ok := (fun k_ => (w.heap.size ≤ k_) ∧ ax k_ (.slice Ao156 x336004_2.length co156) ∧ ax k_ (.slice Ao127 t340.length co127) ∧ ax k_ (.slice Ao132 y344.length co132) ∧ ax k_ (.slice Ao134 t347.length co134) ∧ ax k_ (.slice Ao152 y391.length co152) ∧ ax k_ (.slice Ao153 y394.length co153) ∧ some k_ ≠ (v404 : Value).ownBlock)) (uR (Kd.R_mono HO399.out (fun _ hk => ⟨⟨hk.1.1.1.1.1.1.1.1.1, ⟨hk.1.1.1.1.1.1.2, ⟨hk.1.1.1.1.1.2, ⟨hk.1.1.1.1.2, ⟨hk.1.1.1.2, ⟨hk.1.1.2, ⟨hk.1.2, hk.2⟩⟩⟩⟩⟩⟩⟩, hk.1.1.1.1.1.1.1.2⟩))) hg hat)
         replace HB := zA (hb)
         have HO402 := zA (ho)
         clear HO_336003
         clear ho hb hg hat
         refine hK.out _ _ ⟨bcu BK335 0, bcu BK335 1, bcu BK335 2, bcu BK335 3, bcu BK335 4⟩ (fun hHeld => ?_)
         clear hK K
         refine no_ 98 ?_
         refine pu_ 12 105 (bl 18 6143) HT_ ?_
         refine pu_ 13 106 (bl 18 14335) HT_ ?_
         exact norm_ (by simp only [putAll, Act.put, ls, lz, ln]) (hCont (.slice Ao164 y397.length co164, v401, v404) _ ⟨hHeld, (by (with_reducible repeat (first | apply Kd.V_alloc | apply Kd.V_drewN | apply Kd.V_drew)); exact Kd.V_mono HL339_0.out (fun _ hk => ⟨hk.1.1, ⟨hk.1.2.2.1, ⟨hk.1.2.2.2.1, ⟨hk.1.2.2.2.2.1, ⟨hk.1.2.2.2.2.2.1, ⟨hk.1.2.2.2.2.2.2.1, ⟨hk.1.2.2.2.2.2.2.2.1, ⟨hk.1.2.2.2.2.2.2.2.2.1, ⟨hk.1.2.2.2.2.2.2.2.2.2.2.1, ⟨hk.2, ⟨hk.1.2.2.2.2.2.2.2.2.2.1, ⟨hk.1.2.1, ⟨hk.1.2.2.2.2.2.2.2.2.2.2.2.1, ⟨hk.1.2.2.2.2.2.2.2.2.2.2.2.2.1, hk.1.2.2.2.2.2.2.2.2.2.2.2.2.2⟩⟩⟩⟩⟩⟩⟩⟩⟩⟩⟩⟩⟩⟩)), (uR (Kd.R_mono HO342.out (fun _ hk => ⟨hk.1.1, ⟨hk.1.2.2.1, ⟨hk.1.2.2.2.1, ⟨hk.1.2.2.2.2.1, ⟨hk.1.2.2.2.2.2.1, ⟨hk.1.2.2.2.2.2.2.2, ⟨hk.2, ⟨hk.1.2.2.2.2.2.2.1, hk.1.2.1⟩⟩⟩⟩⟩⟩⟩⟩))), (uR (Kd.R_mono HO346.out (fun _ hk => ⟨hk.1.1, ⟨hk.1.2.2.1, ⟨hk.1.2.2.2.1, ⟨hk.1.2.2.2.2.1, ⟨hk.1.2.2.2.2.2.1, ⟨hk.1.2.2.2.2.2.2.2, ⟨hk.2, ⟨hk.1.2.2.2.2.2.2.1, hk.1.2.1⟩⟩⟩⟩⟩⟩⟩⟩))), (uR (Kd.R_mono HO349.out (fun _ hk => ⟨hk.1.1, ⟨hk.1.2.2.1, ⟨hk.1.2.2.2.1, ⟨hk.1.2.2.2.2.1, ⟨hk.1.2.2.2.2.2.1, ⟨hk.1.2.2.2.2.2.2.2, ⟨hk.2, ⟨hk.1.2.2.2.2.2.2.1, hk.1.2.1⟩⟩⟩⟩⟩⟩⟩⟩))), (uR (Kd.R_mono HO387.out (fun _ hk => ⟨hk.1.1, ⟨hk.1.2.2.1, ⟨hk.1.2.2.2.1, ⟨hk.1.2.2.2.2.1, ⟨hk.1.2.2.2.2.2.1, ⟨hk.1.2.2.2.2.2.2.1, ⟨hk.1.2.2.2.2.2.2.2.1, ⟨hk.1.2.2.2.2.2.2.2.2.2.1, ⟨hk.2, ⟨hk.1.2.2.2.2.2.2.2.2.1, ⟨hk.1.2.1, ⟨hk.1.2.2.2.2.2.2.2.2.2.2.1, ⟨hk.1.2.2.2.2.2.2.2.2.2.2.2.1, hk.1.2.2.2.2.2.2.2.2.2.2.2.2⟩⟩⟩⟩⟩⟩⟩⟩⟩⟩⟩⟩⟩))), (uR (Kd.R_mono HO390.out (fun _ hk => ⟨hk.1.1, ⟨hk.1.2.2.1, ⟨hk.1.2.2.2.1, ⟨hk.1.2.2.2.2.1, ⟨hk.1.2.2.2.2.2.1, ⟨hk.1.2.2.2.2.2.2.1, ⟨hk.1.2.2.2.2.2.2.2.2.1, ⟨hk.2, ⟨hk.1.2.2.2.2.2.2.2.1, ⟨hk.1.2.1, ⟨hk.1.2.2.2.2.2.2.2.2.2.1, ⟨hk.1.2.2.2.2.2.2.2.2.2.2.1, hk.1.2.2.2.2.2.2.2.2.2.2.2⟩⟩⟩⟩⟩⟩⟩⟩⟩⟩⟩⟩))), (uR (Kd.R_mono HO393.out (fun _ hk => ⟨hk.1.1, ⟨hk.1.2.2.1, ⟨hk.1.2.2.2.1, ⟨hk.1.2.2.2.2.1, ⟨hk.1.2.2.2.2.2.1, ⟨hk.1.2.2.2.2.2.2.2, ⟨hk.2, ⟨hk.1.2.2.2.2.2.2.1, hk.1.2.1⟩⟩⟩⟩⟩⟩⟩⟩))), (uR (Kd.R_mono HO396.out (fun _ hk => ⟨hk.1.1, ⟨hk.1.2.2.1, ⟨hk.1.2.2.2.1, ⟨hk.1.2.2.2.2.1, ⟨hk.1.2.2.2.2.2.1, ⟨hk.1.2.2.2.2.2.2.2, ⟨hk.2, ⟨hk.1.2.2.2.2.2.2.1, hk.1.2.1⟩⟩⟩⟩⟩⟩⟩⟩))), (uR (Kd.R_mono HO399.out (fun _ hk => ⟨hk.1.1, ⟨hk.1.2.2.1, ⟨hk.1.2.2.2.1, ⟨hk.1.2.2.2.2.1, ⟨hk.1.2.2.2.2.2.1, ⟨hk.1.2.2.2.2.2.2.1, ⟨hk.2, ⟨hk.1.2.2.2.2.2.2.2, hk.1.2.1⟩⟩⟩⟩⟩⟩⟩⟩))), (uR (Kd.R_mono HO402.out (fun _ hk => ⟨hk.1, ⟨hk.2.2.1, ⟨hk.2.2.2.1, ⟨hk.2.2.2.2.1, ⟨hk.2.2.2.2.2.1, ⟨hk.2.2.2.2.2.2.1, ⟨hk.2.2.2.2.2.2.2.2, ⟨hk.2.2.2.2.2.2.2.1, hk.2.1⟩⟩⟩⟩⟩⟩⟩⟩))), (uR (Kd.R_mono HO405.out (fun _ hk => ⟨hk.1.1, ⟨hk.1.2.2.1, ⟨hk.1.2.2.2.1, ⟨hk.1.2.2.2.2.1, ⟨hk.1.2.2.2.2.2.1, ⟨hk.1.2.2.2.2.2.2.1, ⟨hk.1.2.2.2.2.2.2.2, ⟨hk.2, hk.1.2.1⟩⟩⟩⟩⟩⟩⟩⟩))), (uR (Kd.R_mono HO_336004.out (fun _ hk => ⟨hk.1.1, ⟨hk.1.2.1, ⟨hk.1.2.2.1, ⟨hk.1.2.2.2.1, ⟨hk.1.2.2.2.2.1, ⟨hk.1.2.2.2.2.2.1, ⟨hk.1.2.2.2.2.2.2.2, ⟨hk.2, hk.1.2.2.2.2.2.2.1⟩⟩⟩⟩⟩⟩⟩⟩))), (by (with_reducible repeat (first | apply Kd.V_alloc | apply Kd.V_drewN | apply Kd.V_drew)); exact Kd.V_mono HO_8.out (fun _ hk => ⟨hk.1.1, ⟨hk.1.2.2.1, ⟨hk.1.2.2.2.1, ⟨hk.1.2.2.2.2.1, ⟨hk.1.2.2.2.2.2.1, ⟨hk.1.2.2.2.2.2.2.1, ⟨hk.1.2.2.2.2.2.2.2.1, ⟨hk.1.2.2.2.2.2.2.2.2.1, ⟨hk.1.2.2.2.2.2.2.2.2.2.2.1, ⟨hk.2, ⟨hk.1.2.2.2.2.2.2.2.2.2.1, ⟨hk.1.2.1, ⟨hk.1.2.2.2.2.2.2.2.2.2.2.2.1, ⟨hk.1.2.2.2.2.2.2.2.2.2.2.2.2.1, hk.1.2.2.2.2.2.2.2.2.2.2.2.2.2⟩⟩⟩⟩⟩⟩⟩⟩⟩⟩⟩⟩⟩⟩)), (uB BK327.out), (uB BK328.out), (uB BK335.out), (uH HB.out)⟩)
       rintro ⟨v398, v401, v404⟩ w165 ⟨hS_, h0_, h1_, h2_, h3_, h4_, h5_, h6_, h7_, h8_, h9_, h10_, h11_, h12_, h13_, h14_, h15_, h16_⟩
       have n0_ : Aside0 (Kd.V (Kd.int .i64) 2 w165 w.heap.size (fun k_ => (w.heap.size ≤ k_) ∧ ax k_ (.slice Ao127 t340.length co127) ∧ ax k_ (.slice Ao132 y344.length co132) ∧ ax k_ (.slice Ao134 t347.length co134) ∧ ax k_ (.slice Ao145 y385.length co145) ∧ ax k_ (.slice Ao146 y388.length co146) ∧ ax k_ (.slice Ao152 y391.length co152) ∧ ax k_ (.slice Ao153 y394.length co153) ∧ some k_ ≠ (v398 : Value).ownBlock ∧ some k_ ≠ (v401 : Value).ownBlock ∧ some k_ ≠ (v404 : Value).ownBlock ∧ ax k_ (.slice Ao156 x336004_2.length co156) ∧ k_ ≠ gb327 ∧ k_ ≠ gb328 ∧ k_ ≠ gb335) (.slice A339_0 (rd_L1 x336000_2 x37_2).length c339_0) (rd_L1 x336000_2 x37_2)) := ⟨h0_⟩
       have n1_ : Aside0 (Kd.R (Kd.int .i64) 2 w165 w.heap.size (fun k_ => (w.heap.size ≤ k_) ∧ ax k_ (.slice Ao132 y344.length co132) ∧ ax k_ (.slice Ao134 t347.length co134) ∧ ax k_ (.slice Ao152 y391.length co152) ∧ ax k_ (.slice Ao153 y394.length co153) ∧ some k_ ≠ (v398 : Value).ownBlock ∧ some k_ ≠ (v401 : Value).ownBlock ∧ some k_ ≠ (v404 : Value).ownBlock ∧ ax k_ (.slice Ao156 x336004_2.length co156)) (.slice Ao127 t340.length co127) t340) := ⟨h1_⟩
       have n2_ : Aside0 (Kd.R (Kd.int .i64) 2 w165 w.heap.size (fun k_ => (w.heap.size ≤ k_) ∧ ax k_ (.slice Ao127 t340.length co127) ∧ ax k_ (.slice Ao134 t347.length co134) ∧ ax k_ (.slice Ao152 y391.length co152) ∧ ax k_ (.slice Ao153 y394.length co153) ∧ some k_ ≠ (v398 : Value).ownBlock ∧ some k_ ≠ (v401 : Value).ownBlock ∧ some k_ ≠ (v404 : Value).ownBlock ∧ ax k_ (.slice Ao156 x336004_2.length co156)) (.slice Ao132 y344.length co132) y344) := ⟨h2_⟩
       have n3_ : Aside0 (Kd.R (Kd.int .i64) 2 w165 w.heap.size (fun k_ => (w.heap.size ≤ k_) ∧ ax k_ (.slice Ao127 t340.length co127) ∧ ax k_ (.slice Ao132 y344.length co132) ∧ ax k_ (.slice Ao152 y391.length co152) ∧ ax k_ (.slice Ao153 y394.length co153) ∧ some k_ ≠ (v398 : Value).ownBlock ∧ some k_ ≠ (v401 : Value).ownBlock ∧ some k_ ≠ (v404 : Value).ownBlock ∧ ax k_ (.slice Ao156 x336004_2.length co156)) (.slice Ao134 t347.length co134) t347) := ⟨h3_⟩
       have n4_ : Aside0 (Kd.R (Kd.slice 2 (Kd.int .i64)) 22 w165 w.heap.size (fun k_ => (w.heap.size ≤ k_) ∧ ax k_ (.slice Ao127 t340.length co127) ∧ ax k_ (.slice Ao132 y344.length co132) ∧ ax k_ (.slice Ao134 t347.length co134) ∧ ax k_ (.slice Ao146 y388.length co146) ∧ ax k_ (.slice Ao152 y391.length co152) ∧ ax k_ (.slice Ao153 y394.length co153) ∧ some k_ ≠ (v398 : Value).ownBlock ∧ some k_ ≠ (v401 : Value).ownBlock ∧ some k_ ≠ (v404 : Value).ownBlock ∧ ax k_ (.slice Ao156 x336004_2.length co156) ∧ k_ ≠ gb327 ∧ k_ ≠ gb328 ∧ k_ ≠ gb335) (.slice Ao145 y385.length co145) y385) := ⟨h4_⟩
       have n5_ : Aside0 (Kd.R (Kd.slice 2 (Kd.int .i64)) 22 w165 w.heap.size (fun k_ => (w.heap.size ≤ k_) ∧ ax k_ (.slice Ao127 t340.length co127) ∧ ax k_ (.slice Ao132 y344.length co132) ∧ ax k_ (.slice Ao134 t347.length co134) ∧ ax k_ (.slice Ao152 y391.length co152) ∧ ax k_ (.slice Ao153 y394.length co153) ∧ some k_ ≠ (v398 : Value).ownBlock ∧ some k_ ≠ (v401 : Value).ownBlock ∧ some k_ ≠ (v404 : Value).ownBlock ∧ ax k_ (.slice Ao156 x336004_2.length co156) ∧ k_ ≠ gb327 ∧ k_ ≠ gb328 ∧ k_ ≠ gb335) (.slice Ao146 y388.length co146) y388) := ⟨h5_⟩
       have n6_ : Aside0 (Kd.R (Kd.int .i64) 2 w165 w.heap.size (fun k_ => (w.heap.size ≤ k_) ∧ ax k_ (.slice Ao127 t340.length co127) ∧ ax k_ (.slice Ao132 y344.length co132) ∧ ax k_ (.slice Ao134 t347.length co134) ∧ ax k_ (.slice Ao153 y394.length co153) ∧ some k_ ≠ (v398 : Value).ownBlock ∧ some k_ ≠ (v401 : Value).ownBlock ∧ some k_ ≠ (v404 : Value).ownBlock ∧ ax k_ (.slice Ao156 x336004_2.length co156)) (.slice Ao152 y391.length co152) y391) := ⟨h6_⟩
       have n7_ : Aside0 (Kd.R (Kd.int .i64) 2 w165 w.heap.size (fun k_ => (w.heap.size ≤ k_) ∧ ax k_ (.slice Ao127 t340.length co127) ∧ ax k_ (.slice Ao132 y344.length co132) ∧ ax k_ (.slice Ao134 t347.length co134) ∧ ax k_ (.slice Ao152 y391.length co152) ∧ some k_ ≠ (v398 : Value).ownBlock ∧ some k_ ≠ (v401 : Value).ownBlock ∧ some k_ ≠ (v404 : Value).ownBlock ∧ ax k_ (.slice Ao156 x336004_2.length co156)) (.slice Ao153 y394.length co153) y394) := ⟨h7_⟩
       have n8_ : Aside0 (Kd.R (Kd.int .i64) 2 w165 w.heap.size (fun k_ => (w.heap.size ≤ k_) ∧ ax k_ (.slice Ao127 t340.length co127) ∧ ax k_ (.slice Ao132 y344.length co132) ∧ ax k_ (.slice Ao134 t347.length co134) ∧ ax k_ (.slice Ao152 y391.length co152) ∧ ax k_ (.slice Ao153 y394.length co153) ∧ some k_ ≠ (v401 : Value).ownBlock ∧ some k_ ≠ (v404 : Value).ownBlock ∧ ax k_ (.slice Ao156 x336004_2.length co156)) v398 y397) := ⟨h8_⟩
       have n9_ : Aside0 (Kd.R (Kd.int .i64) 2 w165 w.heap.size (fun k_ => (w.heap.size ≤ k_) ∧ ax k_ (.slice Ao127 t340.length co127) ∧ ax k_ (.slice Ao132 y344.length co132) ∧ ax k_ (.slice Ao134 t347.length co134) ∧ ax k_ (.slice Ao152 y391.length co152) ∧ ax k_ (.slice Ao153 y394.length co153) ∧ some k_ ≠ (v398 : Value).ownBlock ∧ some k_ ≠ (v404 : Value).ownBlock ∧ ax k_ (.slice Ao156 x336004_2.length co156)) v401 y400) := ⟨h9_⟩
       have n10_ : Aside0 (Kd.R (Kd.int .i64) 2 w165 w.heap.size (fun k_ => (w.heap.size ≤ k_) ∧ ax k_ (.slice Ao127 t340.length co127) ∧ ax k_ (.slice Ao132 y344.length co132) ∧ ax k_ (.slice Ao134 t347.length co134) ∧ ax k_ (.slice Ao152 y391.length co152) ∧ ax k_ (.slice Ao153 y394.length co153) ∧ some k_ ≠ (v398 : Value).ownBlock ∧ some k_ ≠ (v401 : Value).ownBlock ∧ ax k_ (.slice Ao156 x336004_2.length co156)) v404 y403) := ⟨h10_⟩
       have n11_ : Aside0 (Kd.R (Kd.int .i64) 2 w165 w.heap.size (fun k_ => (w.heap.size ≤ k_) ∧ ax k_ (.slice Ao127 t340.length co127) ∧ ax k_ (.slice Ao132 y344.length co132) ∧ ax k_ (.slice Ao134 t347.length co134) ∧ ax k_ (.slice Ao152 y391.length co152) ∧ ax k_ (.slice Ao153 y394.length co153) ∧ some k_ ≠ (v398 : Value).ownBlock ∧ some k_ ≠ (v401 : Value).ownBlock ∧ some k_ ≠ (v404 : Value).ownBlock) (.slice Ao156 x336004_2.length co156) x336004_2) := ⟨h11_⟩
       have n12_ : Aside0 (Kd.V (Kd.int .i64) 2 w165 w.heap.size (fun k_ => (w.heap.size ≤ k_) ∧ ax k_ (.slice Ao127 t340.length co127) ∧ ax k_ (.slice Ao132 y344.length co132) ∧ ax k_ (.slice Ao134 t347.length co134) ∧ ax k_ (.slice Ao145 y385.length co145) ∧ ax k_ (.slice Ao146 y388.length co146) ∧ ax k_ (.slice Ao152 y391.length co152) ∧ ax k_ (.slice Ao153 y394.length co153) ∧ some k_ ≠ (v398 : Value).ownBlock ∧ some k_ ≠ (v401 : Value).ownBlock ∧ some k_ ≠ (v404 : Value).ownBlock ∧ ax k_ (.slice Ao156 x336004_2.length co156) ∧ k_ ≠ gb327 ∧ k_ ≠ gb328 ∧ k_ ≠ gb335) (.slice Ao139 x8_2.length co139) x8_2) := ⟨h12_⟩
       have n13_ : Aside0 (w165.heap[gb327]? = some (.cells #[.int .i64 a0_0, .slice (some ad352) l0_1.length c0_1] 40 (0, 0))) := ⟨h13_⟩
       have n14_ : Aside0 (w165.heap[gb328]? = some (.cells #[.slice none 0 0, .slice none 0 0, .int .i64 0, .slice none 0 0, .slice none 0 0] 95 (0, 0))) := ⟨h14_⟩
       have n15_ : Aside0 (w165.heap[gb335]? = some (.cells #[.slice Ao146 y388.length co146, .slice Ao153 y394.length co153, .int .i64 a0_0, .slice Ao155 x336003_2.length co155, .slice Ao156 x336004_2.length co156] 95 (0, 0))) := ⟨h15_⟩
       have n16_ : Aside0 (Below w.heap.size w w165) := ⟨h16_⟩
       clear HO_8 HO_336003 HO_336004 HL339_0 HO342 HO346 HO349 HO387 HO390 HO393 HO396 BK327 BK328 BK335 HB
       clear h0_ h1_ h2_ h3_ h4_ h5_ h6_ h7_ h8_ h9_ h10_ h11_ h12_ h13_ h14_ h15_ h16_
       have HL339_0 := n0_
       have HO342 := n1_
       have HO346 := n2_
       have HO349 := n3_
       have HO387 := n4_
       have HO390 := n5_
       have HO393 := n6_
       have HO396 := n7_
       have HO399 := n8_
       have HO402 := n9_
       have HO405 := n10_
       have HO_336004 := n11_
       have HO_8 := n12_
       have BK327 := n13_
       have BK328 := n14_
       have BK335 := n15_
       have HB := n16_
       clear n0_ n1_ n2_ n3_ n4_ n5_ n6_ n7_ n8_ n9_ n10_ n11_ n12_ n13_ n14_ n15_ n16_
       have hHeld : w165.cell? ⟨gb335, 0, none⟩ = some (.slice Ao146 y388.length co146) ∧ w165.cell? ⟨gb335, 1, none⟩ = some (.slice Ao153 y394.length co153) ∧ w165.cell? ⟨gb335, 2, none⟩ = some (.int .i64 a0_0) ∧ w165.cell? ⟨gb335, 3, none⟩ = some (.slice Ao155 x336003_2.length co155) ∧ w165.cell? ⟨gb335, 4, none⟩ = some (.slice Ao156 x336004_2.length co156) := hS_
       obtain ⟨Ao167, co167, eo167⟩ := Kd.R_slice HO405.out
       (first | subst eo167 | (injection eo167 with f1_ f2_ f3_; have f4_ := f1_.symm; have f5_ := f3_.symm; clear f1_ f2_ f3_; subst f4_; subst f5_))
       refine norm_ (a' := ?_) ?_ ?_
       rotate_left
       ·simp only [putAll, Act.put, ls, lz, ln]
        rfl
       refine on_ 11 (some 104) (bl 18 16383) HT_ (fun K hK => ?_)
       refine Kd.R_append_rows_step (Kd.int .i64) (w0 := w) w.heap.size (by rfl) (.tmp 101) (.tmp 103) 22 2 (.int .i64 0) 8 rfl Try.underlying22 info2 rfl (by decide) (by omega) (.slice Ao156 x336004_2.length co156) x336004_2 y403 _ _ _ (fun k_ => (w.heap.size ≤ k_) ∧ ax k_ (.slice Ao127 t340.length co127) ∧ ax k_ (.slice Ao132 y344.length co132) ∧ ax k_ (.slice Ao134 t347.length co134) ∧ ax k_ (.slice Ao152 y391.length co152) ∧ ax k_ (.slice Ao153 y394.length co153) ∧ some k_ ≠ (v398 : Value).ownBlock ∧ some k_ ≠ (v401 : Value).ownBlock ∧ ax k_ (.slice Ao167 y403.length co167)) (fun _ => False) rfl rfl ?aO ?aR (fun _ _ h => h) (fun _ h => h.elim) ?aF ?aB ?aS ?aL ?_
       (case aR => exact uC ((Kd.R_reads' HO405.out).2.2))
       (case aB => exact (uH HB.out))
       (case aF => exact (fun k_ hk => ⟨(Nat.le_trans (below_size (uH HB.out)) hk), Kd.fresh' (Kd.R_lt (uR HO342.out)) k_ hk, Kd.fresh' (Kd.R_lt (uR HO346.out)) k_ hk, Kd.fresh' (Kd.R_lt (uR HO349.out)) k_ hk, Kd.fresh' (Kd.R_lt (uR HO393.out)) k_ hk, Kd.fresh' (Kd.R_lt (uR HO396.out)) k_ hk, Kd.fresh' (Kd.R_lt (uR HO399.out)) k_ hk, Kd.fresh' (Kd.R_lt (uR HO402.out)) k_ hk, Kd.fresh' (Kd.R_lt (uR HO405.out)) k_ hk⟩))
       (case aO => exact (uR HO_336004.out))
       (case aS => exact (below_size (uH HB.out)))
       (case aL => have := LMc119.out; omega)
       intro v407 w166 ho hb hg hat
       rw [← Ny406.out] at ho
       replace HO_8 := zA (Kd.V_afterv (ok := (fun k_ => (w.heap.size ≤ k_) ∧ ax k_ (.slice Ao127 t340.length co127) ∧ ax k_ (.slice Ao132 y344.length co132) ∧ ax k_ (.slice Ao134 t347.length co134) ∧ ax k_ (.slice Ao145 y385.length co145) ∧ ax k_ (.slice Ao146 y388.length co146) ∧ ax k_ (.slice Ao152 y391.length co152) ∧ ax k_ (.slice Ao153 y394.length co153) ∧ some k_ ≠ (v398 : Value).ownBlock ∧ some k_ ≠ (v401 : Value).ownBlock ∧ ax k_ (.slice Ao167 y403.length co167) ∧ k_ ≠ gb327 ∧ k_ ≠ gb328 ∧ k_ ≠ gb335)) (by (with_reducible repeat (first | apply Kd.V_alloc | apply Kd.V_drewN | apply Kd.V_drew)); exact Kd.V_mono HO_8.out (fun _ hk => ⟨⟨hk.1, ⟨hk.2.1, ⟨hk.2.2.1, ⟨hk.2.2.2.1, ⟨hk.2.2.2.2.1, ⟨hk.2.2.2.2.2.1, ⟨hk.2.2.2.2.2.2.1, ⟨hk.2.2.2.2.2.2.2.1, ⟨hk.2.2.2.2.2.2.2.2.1, ⟨hk.2.2.2.2.2.2.2.2.2.1, ⟨hk.2.2.2.2.2.2.2.2.2.2.1, ⟨hk.2.2.2.2.2.2.2.2.2.2.2.2.1, ⟨hk.2.2.2.2.2.2.2.2.2.2.2.2.2.1, hk.2.2.2.2.2.2.2.2.2.2.2.2.2.2⟩⟩⟩⟩⟩⟩⟩⟩⟩⟩⟩⟩⟩, hk.2.2.2.2.2.2.2.2.2.2.2.1⟩)) hg hat)
       replace BK327 := zA (blk_grown (g := gb327) (o := .cells #[.int .i64 a0_0, .slice (some ad352) l0_1.length c0_1] 40 (0, 0)) (uB BK327.out) hg (Kd.R_ne HO_336004.out BK327.out (by decide)))
       replace BK328 := zA (blk_grown (g := gb328) (o := .cells #[.slice none 0 0, .slice none 0 0, .int .i64 0, .slice none 0 0, .slice none 0 0] 95 (0, 0)) (uB BK328.out) hg (Kd.R_ne HO_336004.out BK328.out (by decide)))
       replace BK335 := zA (blk_grown (g := gb335) (o := .cells #[.slice Ao146 y388.length co146, .slice Ao153 y394.length co153, .int .i64 a0_0, .slice Ao155 x336003_2.length co155, .slice Ao156 x336004_2.length co156] 95 (0, 0)) (uB BK335.out) hg (Kd.R_ne HO_336004.out BK335.out (by decide)))
       replace HL339_0 := zA (Kd.V_afterv (ok := (fun k_ => (w.heap.size ≤ k_) ∧ ax k_ (.slice Ao127 t340.length co127) ∧ ax k_ (.slice Ao132 y344.length co132) ∧ ax k_ (.slice Ao134 t347.length co134) ∧ ax k_ (.slice Ao145 y385.length co145) ∧ ax k_ (.slice Ao146 y388.length co146) ∧ ax k_ (.slice Ao152 y391.length co152) ∧ ax k_ (.slice Ao153 y394.length co153) ∧ some k_ ≠ (v398 : Value).ownBlock ∧ some k_ ≠ (v401 : Value).ownBlock ∧ ax k_ (.slice Ao167 y403.length co167) ∧ k_ ≠ gb327 ∧ k_ ≠ gb328 ∧ k_ ≠ gb335)) (by (with_reducible repeat (first | apply Kd.V_alloc | apply Kd.V_drewN | apply Kd.V_drew)); exact Kd.V_mono HL339_0.out (fun _ hk => ⟨⟨hk.1, ⟨hk.2.1, ⟨hk.2.2.1, ⟨hk.2.2.2.1, ⟨hk.2.2.2.2.1, ⟨hk.2.2.2.2.2.1, ⟨hk.2.2.2.2.2.2.1, ⟨hk.2.2.2.2.2.2.2.1, ⟨hk.2.2.2.2.2.2.2.2.1, ⟨hk.2.2.2.2.2.2.2.2.2.1, ⟨hk.2.2.2.2.2.2.2.2.2.2.1, ⟨hk.2.2.2.2.2.2.2.2.2.2.2.2.1, ⟨hk.2.2.2.2.2.2.2.2.2.2.2.2.2.1, hk.2.2.2.2.2.2.2.2.2.2.2.2.2.2⟩⟩⟩⟩⟩⟩⟩⟩⟩⟩⟩⟩⟩, hk.2.2.2.2.2.2.2.2.2.2.2.1⟩)) hg hat)
       replace HO342 := zA (Kd.R_after (ok := (fun k_ => (w.heap.size ≤ k_) ∧ ax k_ (.slice Ao132 y344.length co132) ∧ ax k_ (.slice Ao134 t347.length co134) ∧ ax k_ (.slice Ao152 y391.length co152) ∧ ax k_ (.slice Ao153 y394.length co153) ∧ some k_ ≠ (v398 : Value).ownBlock ∧ some k_ ≠ (v401 : Value).ownBlock ∧ ax k_ (.slice Ao167 y403.length co167))) (uR (Kd.R_mono HO342.out (fun _ hk => ⟨⟨hk.1, ⟨hk.2.1, ⟨hk.2.2.1, ⟨hk.2.2.2.1, ⟨hk.2.2.2.2.1, ⟨hk.2.2.2.2.2.1, ⟨hk.2.2.2.2.2.2.1, hk.2.2.2.2.2.2.2.1⟩⟩⟩⟩⟩⟩⟩, hk.2.2.2.2.2.2.2.2⟩))) hg hat)
       replace HO346 := zA (Kd.R_after (ok := (fun k_ => (w.heap.size ≤ k_) ∧ ax k_ (.slice Ao127 t340.length co127) ∧ ax k_ (.slice Ao134 t347.length co134) ∧ ax k_ (.slice Ao152 y391.length co152) ∧ ax k_ (.slice Ao153 y394.length co153) ∧ some k_ ≠ (v398 : Value).ownBlock ∧ some k_ ≠ (v401 : Value).ownBlock ∧ ax k_ (.slice Ao167 y403.length co167))) (uR (Kd.R_mono HO346.out (fun _ hk => ⟨⟨hk.1, ⟨hk.2.1, ⟨hk.2.2.1, ⟨hk.2.2.2.1, ⟨hk.2.2.2.2.1, ⟨hk.2.2.2.2.2.1, ⟨hk.2.2.2.2.2.2.1, hk.2.2.2.2.2.2.2.1⟩⟩⟩⟩⟩⟩⟩, hk.2.2.2.2.2.2.2.2⟩))) hg hat)
       replace HO349 := zA (Kd.R_after (ok := (fun k_ => (w.heap.size ≤ k_) ∧ ax k_ (.slice Ao127 t340.length co127) ∧ ax k_ (.slice Ao132 y344.length co132) ∧ ax k_ (.slice Ao152 y391.length co152) ∧ ax k_ (.slice Ao153 y394.length co153) ∧ some k_ ≠ (v398 : Value).ownBlock ∧ some k_ ≠ (v401 : Value).ownBlock ∧ ax k_ (.slice Ao167 y403.length co167))) (uR (Kd.R_mono HO349.out (fun _ hk => ⟨⟨hk.1, ⟨hk.2.1, ⟨hk.2.2.1, ⟨hk.2.2.2.1, ⟨hk.2.2.2.2.1, ⟨hk.2.2.2.2.2.1, ⟨hk.2.2.2.2.2.2.1, hk.2.2.2.2.2.2.2.1⟩⟩⟩⟩⟩⟩⟩, hk.2.2.2.2.2.2.2.2⟩))) hg hat)
       replace HO387 := zA (R_afterv (ok := (fun k_ => (w.heap.size ≤ k_) ∧ ax k_ (.slice Ao127 t340.length co127) ∧ ax k_ (.slice Ao132 y344.length co132) ∧ ax k_ (.slice Ao134 t347.length co134) ∧ ax k_ (.slice Ao146 y388.length co146) ∧ ax k_ (.slice Ao152 y391.length co152) ∧ ax k_ (.slice Ao153 y394.length co153) ∧ some k_ ≠ (v398 : Value).ownBlock ∧ some k_ ≠ (v401 : Value).ownBlock ∧ ax k_ (.slice Ao167 y403.length co167) ∧ k_ ≠ gb327 ∧ k_ ≠ gb328 ∧ k_ ≠ gb335)) (uR (Kd.R_mono HO387.out (fun _ hk => ⟨⟨hk.1, ⟨hk.2.1, ⟨hk.2.2.1, ⟨hk.2.2.2.1, ⟨hk.2.2.2.2.1, ⟨hk.2.2.2.2.2.1, ⟨hk.2.2.2.2.2.2.1, ⟨hk.2.2.2.2.2.2.2.1, ⟨hk.2.2.2.2.2.2.2.2.1, ⟨hk.2.2.2.2.2.2.2.2.2.1, ⟨hk.2.2.2.2.2.2.2.2.2.2.2.1, ⟨hk.2.2.2.2.2.2.2.2.2.2.2.2.1, hk.2.2.2.2.2.2.2.2.2.2.2.2.2⟩⟩⟩⟩⟩⟩⟩⟩⟩⟩⟩⟩, hk.2.2.2.2.2.2.2.2.2.2.1⟩))) hg hat)
       replace HO390 := zA (R_afterv (ok := (fun k_ => (w.heap.size ≤ k_) ∧ ax k_ (.slice Ao127 t340.length co127) ∧ ax k_ (.slice Ao132 y344.length co132) ∧ ax k_ (.slice Ao134 t347.length co134) ∧ ax k_ (.slice Ao152 y391.length co152) ∧ ax k_ (.slice Ao153 y394.length co153) ∧ some k_ ≠ (v398 : Value).ownBlock ∧ some k_ ≠ (v401 : Value).ownBlock ∧ ax k_ (.slice Ao167 y403.length co167) ∧ k_ ≠ gb327 ∧ k_ ≠ gb328 ∧ k_ ≠ gb335)) (uR (Kd.R_mono HO390.out (fun _ hk => ⟨⟨hk.1, ⟨hk.2.1, ⟨hk.2.2.1, ⟨hk.2.2.2.1, ⟨hk.2.2.2.2.1, ⟨hk.2.2.2.2.2.1, ⟨hk.2.2.2.2.2.2.1, ⟨hk.2.2.2.2.2.2.2.1, ⟨hk.2.2.2.2.2.2.2.2.1, ⟨hk.2.2.2.2.2.2.2.2.2.2.1, ⟨hk.2.2.2.2.2.2.2.2.2.2.2.1, hk.2.2.2.2.2.2.2.2.2.2.2.2⟩⟩⟩⟩⟩⟩⟩⟩⟩⟩⟩, hk.2.2.2.2.2.2.2.2.2.1⟩))) hg hat)
       replace HO393 := zA (Kd.R_after (ok := (fun k_ => (w.heap.size ≤ k_) ∧ ax k_ (.slice Ao127 t340.length co127) ∧ ax k_ (.slice Ao132 y344.length co132) ∧ ax k_ (.slice Ao134 t347.length co134) ∧ ax k_ (.slice Ao153 y394.length co153) ∧ some k_ ≠ (v398 : Value).ownBlock ∧ some k_ ≠ (v401 : Value).ownBlock ∧ ax k_ (.slice Ao167 y403.length co167))) (uR (Kd.R_mono HO393.out (fun _ hk => ⟨⟨hk.1, ⟨hk.2.1, ⟨hk.2.2.1, ⟨hk.2.2.2.1, ⟨hk.2.2.2.2.1, ⟨hk.2.2.2.2.2.1, ⟨hk.2.2.2.2.2.2.1, hk.2.2.2.2.2.2.2.1⟩⟩⟩⟩⟩⟩⟩, hk.2.2.2.2.2.2.2.2⟩))) hg hat)
       replace HO396 := zA (Kd.R_after (ok := (fun k_ => (w.heap.size ≤ k_) ∧ ax k_ (.slice Ao127 t340.length co127) ∧ ax k_ (.slice Ao132 y344.length co132) ∧ ax k_ (.slice Ao134 t347.length co134) ∧ ax k_ (.slice Ao152 y391.length co152) ∧ some k_ ≠ (v398 : Value).ownBlock ∧ some k_ ≠ (v401 : Value).ownBlock ∧ ax k_ (.slice Ao167 y403.length co167))) (uR (Kd.R_mono HO396.out (fun _ hk => ⟨⟨hk.1, ⟨hk.2.1, ⟨hk.2.2.1, ⟨hk.2.2.2.1, ⟨hk.2.2.2.2.1, ⟨hk.2.2.2.2.2.1, ⟨hk.2.2.2.2.2.2.1, hk.2.2.2.2.2.2.2.1⟩⟩⟩⟩⟩⟩⟩, hk.2.2.2.2.2.2.2.2⟩))) hg hat)
       replace HO399 := zA (Kd.R_after (ok := (fun k_ => (w.heap.size ≤ k_) ∧ ax k_ (.slice Ao127 t340.length co127) ∧ ax k_ (.slice Ao132 y344.length co132) ∧ ax k_ (.slice Ao134 t347.length co134) ∧ ax k_ (.slice Ao152 y391.length co152) ∧ ax k_ (.slice Ao153 y394.length co153) ∧ some k_ ≠ (v401 : Value).ownBlock ∧ ax k_ (.slice Ao167 y403.length co167))) (uR (Kd.R_mono HO399.out (fun _ hk => ⟨⟨hk.1, ⟨hk.2.1, ⟨hk.2.2.1, ⟨hk.2.2.2.1, ⟨hk.2.2.2.2.1, ⟨hk.2.2.2.2.2.1, ⟨hk.2.2.2.2.2.2.1, hk.2.2.2.2.2.2.2.1⟩⟩⟩⟩⟩⟩⟩, hk.2.2.2.2.2.2.2.2⟩))) hg hat)
       replace HO402 := zA (Kd.R_after (ok := (fun k_ => (w.heap.size ≤ k_) ∧ ax k_ (.slice Ao127 t340.length co127) ∧ ax k_ (.slice Ao132 y344.length co132) ∧ ax k_ (.slice Ao134 t347.length co134) ∧ ax k_ (.slice Ao152 y391.length co152) ∧ ax k_ (.slice Ao153 y394.length co153) ∧ some k_ ≠ (v398 : Value).ownBlock ∧ ax k_ (.slice Ao167 y403.length co167))) (uR (Kd.R_mono HO402.out (fun _ hk => ⟨⟨hk.1, ⟨hk.2.1, ⟨hk.2.2.1, ⟨hk.2.2.2.1, ⟨hk.2.2.2.2.1, ⟨hk.2.2.2.2.2.1, ⟨hk.2.2.2.2.2.2.1, hk.2.2.2.2.2.2.2.1⟩⟩⟩⟩⟩⟩⟩, hk.2.2.2.2.2.2.2.2⟩))) hg hat)
       replace HO405 := zA (Kd.R_after (ok := (fun k_ => (w.heap.size ≤ k_) ∧ ax k_ (.slice Ao127 t340.length co127) ∧ ax k_ (.slice Ao132 y344.length co132) ∧ ax k_ (.slice Ao134 t347.length co134) ∧ ax k_ (.slice Ao152 y391.length co152) ∧ ax k_ (.slice Ao153 y394.length co153) ∧ some k_ ≠ (v398 : Value).ownBlock ∧ some k_ ≠ (v401 : Value).ownBlock)) (uR (Kd.R_mono HO405.out (fun _ hk => ⟨⟨hk.1, ⟨hk.2.1, ⟨hk.2.2.1, ⟨hk.2.2.2.1, ⟨hk.2.2.2.2.1, ⟨hk.2.2.2.2.2.1, ⟨hk.2.2.2.2.2.2.1, hk.2.2.2.2.2.2.2.1⟩⟩⟩⟩⟩⟩⟩, hk.2.2.2.2.2.2.2.2⟩))) hg hat)
       replace HB := zA (hb)
       have HO408 := zA (ho)
       clear HO_336004
       clear ho hb hg hat
       obtain ⟨Ao168, co168, eo168⟩ := Kd.R_slice HO402.out
       (first | subst eo168 | (injection eo168 with f1_ f2_ f3_; have f4_ := f1_.symm; have f5_ := f3_.symm; clear f1_ f2_ f3_; subst f4_; subst f5_))
       obtain ⟨Ao170, co170, eo170⟩ := Kd.R_slice HO408.out
       (first | subst eo170 | (injection eo170 with f1_ f2_ f3_; have f4_ := f1_.symm; have f5_ := f3_.symm; clear f1_ f2_ f3_; subst f4_; subst f5_))
       refine hK.out _ _ ⟨bcu BK335 0, bcu BK335 1, bcu BK335 2, bcu BK335 3, bcu BK335 4⟩ (fun hHeld => ?_)
       clear hK K
       refine no_ 104 ?_
       refine last_ (i := 14) (N := none) (bl 18 32767) rfl rfl (one_of HT_.out (by kernel_rfl)) (by decide) (fun K hK => ?_)
       have hs169 : w166.cell? ⟨gb335, 3, none⟩ = some (.slice Ao155 x336003_2.length co155) := (blk_cell BK335.out 3).trans rfl
       have hfs169 := bf BK335 3
       have hns169_0 := NB327_335.out; have hns169_1 := NB328_335.out; have hms169_0 := NB335_327.out; have hms169_1 := NB335_328.out
       refine skip_ (w1 := ?_) (by rfl) rfl ?_ ?_
       rotate_left
       ·go_simp
        rfl
       refine hK.out _ _ ?_
       clear hK K
       refine pu_ 15 107 (bl 18 65535) HT_ ?_
       refine pu_ 16 108 (bl 18 131071) HT_ ?_
       refine last_ (i := 17) (N := none) (bl 18 262143) rfl rfl (one_of HT_.out (by kernel_rfl)) (by decide) (fun K hK => ?_)
       have hs171 : w166.cell? ⟨gb335, 4, none⟩ = some (.slice Ao156 x336004_2.length co156) := (blk_cell BK335.out 4).trans rfl
       have hfs171 := bf BK335 4
       have hns171_0 := NB327_335.out; have hns171_1 := NB328_335.out; have hms171_0 := NB335_327.out; have hms171_1 := NB335_328.out
       refine skip_ (w1 := ?_) (by rfl) rfl ?_ ?_
       rotate_left
       ·go_simp
        rfl
       refine hK.out _ _ ?_
       clear hK K
       refine done_ (done_of HT_.out (by kernel_rfl)) ?_
       try go_wp2
       go_roundg k2
       case measure => have := HJ2.out; have := HK2.out; omega
       case rel => exact ⟨(rd_L1 x336000_2 x37_2), (wrap64 (x37_2 + 1)), (y388), (y394), (y400), (y406), (.slice Ao146 y388.length co146), (.slice Ao153 y394.length co153), (.slice Ao168 y400.length co168), (.slice Ao170 y406.length co170), (by first | rfl | (simp; done) | (simp [*]; done)), H', ⟨by have := HJ2.out; have := HK2.out; omega⟩, ⟨by (with_reducible repeat (first | apply Kd.V_alloc | apply Kd.V_drewN | apply Kd.V_drew)); exact Kd.V_mono (Kd.V_far (p := ⟨gb335, 4, none⟩) (Kd.V_far (p := ⟨gb335, 3, none⟩) (Kd.V_mono HL339_0.out (fun k_ hk => (⟨hk, hk.1.2.2.2.2.2.2.2.2.2.2.2.2.2⟩ : _ ∧ k_ ≠ gb335))) (fun _ hk => hk.2) (.slice Ao168 y400.length co168)) (fun _ hk => hk.2) (.slice Ao170 y406.length co170)) (fun _ hk => ⟨hk.1.1.1, ⟨hk.1.1.2.2.2.2.2.1, ⟨hk.1.1.2.2.2.2.2.2.2.1, ⟨hk.1.1.2.2.2.2.2.2.2.2.2.1, ⟨hk.1.2, ⟨hk.1.1.2.2.2.2.2.2.2.2.2.2.2.1, ⟨hk.1.1.2.2.2.2.2.2.2.2.2.2.2.2.1, hk.1.1.2.2.2.2.2.2.2.2.2.2.2.2.2⟩⟩⟩⟩⟩⟩⟩)⟩, ⟨by (with_reducible repeat (first | apply Kd.R_alloc | apply Kd.R_drewN | apply Kd.R_drew)); exact Kd.R_mono (Kd.R_far (p := ⟨gb335, 4, none⟩) (Kd.R_far (p := ⟨gb335, 3, none⟩) (Kd.R_mono HO390.out (fun k_ hk => (⟨hk, hk.1.2.2.2.2.2.2.2.2.2.2.2⟩ : _ ∧ k_ ≠ gb335))) (fun _ hk => hk.2) (.slice Ao168 y400.length co168)) (fun _ hk => hk.2) (.slice Ao170 y406.length co170)) (fun _ hk => ⟨hk.1.1.1, ⟨hk.1.1.2.2.2.2.2.1, ⟨hk.1.1.2.2.2.2.2.2.2.1, ⟨hk.1.2, ⟨hk.1.1.2.2.2.2.2.2.2.2.2.1, ⟨hk.1.1.2.2.2.2.2.2.2.2.2.2.1, hk.1.1.2.2.2.2.2.2.2.2.2.2.2⟩⟩⟩⟩⟩⟩)⟩, ⟨uR (Kd.R_mono (Kd.R_far (p := ⟨gb335, 4, none⟩) (Kd.R_far (p := ⟨gb335, 3, none⟩) (Kd.R_types HO396.out BK335.out (by decide)) (fun _ hk => hk.2) (.slice Ao168 y400.length co168)) (fun _ hk => hk.2) (.slice Ao170 y406.length co170)) (fun _ hk => ⟨hk.1.1.1, ⟨hk.1.1.2.2.2.2.2.2.1, hk.1.2⟩⟩))⟩, ⟨uR (Kd.R_mono (Kd.R_far (p := ⟨gb335, 4, none⟩) (Kd.R_far (p := ⟨gb335, 3, none⟩) (Kd.R_types HO402.out BK335.out (by decide)) (fun _ hk => hk.2) (.slice Ao168 y400.length co168)) (fun _ hk => hk.2) (.slice Ao170 y406.length co170)) (fun _ hk => ⟨hk.1.1.1, ⟨hk.1.1.2.2.2.2.2.1, hk.1.2⟩⟩))⟩, ⟨uR (Kd.R_mono (Kd.R_far (p := ⟨gb335, 4, none⟩) (Kd.R_far (p := ⟨gb335, 3, none⟩) (Kd.R_types HO408.out BK335.out (by decide)) (fun _ hk => hk.2) (.slice Ao168 y400.length co168)) (fun _ hk => hk.2) (.slice Ao170 y406.length co170)) (fun _ hk => ⟨hk.1.1, ⟨hk.1.2.2.2.2.2.1, hk.1.2.2.2.2.2.2.2.1⟩⟩))⟩, ⟨by (repeat refine up1 ?_); refine blk_far ?_ NB327_335.out _; (repeat refine up1 ?_); refine blk_far ?_ NB327_335.out _; (repeat refine up1 ?_); exact BK327.out⟩, ⟨by (repeat refine up1 ?_); refine blk_far ?_ NB328_335.out _; (repeat refine up1 ?_); refine blk_far ?_ NB328_335.out _; (repeat refine up1 ?_); exact BK328.out⟩, ⟨by (repeat refine up1 ?_); refine blk_put (cs := #[.slice Ao146 y388.length co146, .slice Ao153 y394.length co153, .int .i64 a0_0, .slice Ao168 y400.length co168, .slice Ao156 x336004_2.length co156]) ?_ 4 _ rfl; (repeat refine up1 ?_); refine blk_put (cs := #[.slice Ao146 y388.length co146, .slice Ao153 y394.length co153, .int .i64 a0_0, .slice Ao155 x336003_2.length co155, .slice Ao156 x336004_2.length co156]) ?_ 3 _ rfl; (repeat refine up1 ?_); exact BK335.out⟩, ⟨uH HB.out⟩⟩
theorem impl_Moments_upTo.calls (k : Nat) (a0_0 : Int) (A0_1 : Option Addr) (c0_1 : Nat) (l0_1 : List Int) (a1 : Int) (r1 : List (List Int)) (r2 : List Int) (r3 : Int) (r4 : List Int) (r5 : List Int) (r6 : Bool) (w : World) (hr0_1 : Kd.C (Kd.int .i64) w A0_1 l0_1.length l0_1) (hc0_1 : l0_1.length ≤ c0_1) (h : impl_Moments_upTo.f k a0_0 l0_1 a1 = some (r1, r2, r3, r4, r5, r6)) :
  Calls Try.prog 88 #[.agg #[.int .i64 a0_0, .slice A0_1 l0_1.length c0_1], .int .i64 a1] w fun e w' => ∃ v0_ v1_ v3_ v4_ : Value, e = .returned (.tuple #[.agg #[v0_, v1_, .int .i64 r3, v3_, v4_], .bool r6]) ∧ Kd.N (Kd.slice 2 (Kd.int .i64)) 22 w' w.heap.size (fun k_ => (w.heap.size ≤ k_) ∧ some k_ ≠ (v1_ : Value).ownBlock ∧ some k_ ≠ (v3_ : Value).ownBlock ∧ some k_ ≠ (v4_ : Value).ownBlock) v0_ r1 ∧ Kd.R (Kd.int .i64) 2 w' w.heap.size (fun k_ => (w.heap.size ≤ k_) ∧ some k_ ≠ (v3_ : Value).ownBlock ∧ some k_ ≠ (v4_ : Value).ownBlock) v1_ r2 ∧ Kd.R (Kd.int .i64) 2 w' w.heap.size (fun k_ => (w.heap.size ≤ k_) ∧ some k_ ≠ (v1_ : Value).ownBlock ∧ some k_ ≠ (v4_ : Value).ownBlock) v3_ r4 ∧ Kd.R (Kd.int .i64) 2 w' w.heap.size (fun k_ => (w.heap.size ≤ k_) ∧ some k_ ≠ (v1_ : Value).ownBlock ∧ some k_ ≠ (v3_ : Value).ownBlock) v4_ r5 ∧ Below w.heap.size w w' := (impl_Moments_upTo.callsR k a0_0 A0_1 c0_1 l0_1 a1 r1 r2 r3 r4 r5 r6 w hr0_1 hc0_1 h).mono fun e w' ⟨v0, v1, v3, v4, he, hR, hh⟩ => ⟨v0, v1, v3, v4, he, Kd.R_N hR, hh⟩

end Go.Proofs.Ytfbnkebgdmfcfaa.Pr
