/- Texts of this session in one: what functions of the program compute, and plain facts of it, under the conditions that each theorem names. -/
import Derived.Test.YtgneldhhlfjjaaaKFimplJacobiassociated
import Derived.Test.YtgneldhhlfjjaaaKFimplWronskiAt
import Derived.Test.YtgneldhhlfjjaaaKFimpljacobiCode
import Derived.Test.YtgneldhhlfjjaaaKFspecl01Times
import Derived.Test.YtgneldhhlfjjaaaKFspecl03Is
import Derived.Test.YtgneldhhlfjjaaaKWronskiAt1
import Derived.Test.YtgneldhhlfjjaaaKWronskiAt2
import Derived.Test.YtgneldhhlfjjaaaKWronskiAt4
import Derived.Test.YtgneldhhlfjjaaaKWronskiAt5
import Derived.Test.YtgneldhhlfjjaaaKWronskiAt6
/- Printed by a program of this session out of the translation: what these functions of the program compute, under the conditions that each theorem names. -/
namespace Go.Proofs.Ytgneldhhlfjjaaa.Pr
open Go.RowKit Go.Proofs.YtgneldhhlfjjaaaW.PrintWords Go.Proofs.YtgneldhhlfjjaaaW.PrintLast Go.Proofs.YtgneldhhlfjjaaaW.PrintMore
attribute [local go_sem] max2_int min2_int max_two min_two max_three min_three max_four min_four   -- for this text's walks alone
set_option linter.unusedVariables false
set_option linter.unusedSimpArgs false

/-! ### spec_l03Code: function 51 -/
def spec_l03Code.f (k : Nat) (a0_0 : Int) (l0_1 : List Int) (l0_2 : List Int) (a1 : Int) (a2 : Int) (a3 : Int) : Option (Int) := (spec_l03Is.f k a0_0 l0_1 l0_2).bind fun t112 => (if t112 = true then ((spec_l01In.f a1 a2 a3).bind fun t113 => (if t113 = true then (some 0) else (some 2))) else (some 1))
theorem spec_l03Code.mono : ∀ a0 a1 a2 a3 a4 a5 k, LeO (spec_l03Code.f k a0 a1 a2 a3 a4 a5) (spec_l03Code.f (k + 1) a0 a1 a2 a3 a4 a5) := by
 intro a0 a1 a2 a3 a4 a5 k
 unfold spec_l03Code.f
 repeat' first
   | (with_reducible exact spec_l03Is.mono _ _ _ _)
   | (with_reducible exact LeO.refl _)
   | (with_reducible exact LeO.none _)
   | (with_reducible refine LeO.ite ?_ ?_)
   | (with_reducible refine LeO.bind ?_ (fun _ => ?_))
   | exact spec_l03Is.mono _ _ _ _
   | exact LeO.none _
   | refine LeO.ite ?_ ?_
   | refine LeO.bind ?_ (fun _ => ?_)
set_option maxHeartbeats 8000000 in
set_option maxRecDepth 100000 in
theorem spec_l03Code.calls (k : Nat) (a0_0 : Int) (A0_1 : Option Addr) (c0_1 : Nat) (l0_1 : List Int) (A0_2 : Option Addr) (c0_2 : Nat) (l0_2 : List Int) (a1 : Int) (a2 : Int) (a3 : Int) (r : Int) (w : World) (hr0_1 : Kd.C (Kd.int .i64) w A0_1 l0_1.length l0_1) (hc0_1 : l0_1.length ≤ c0_1) (hr0_2 : Kd.C (Kd.int .i64) w A0_2 l0_2.length l0_2) (hc0_2 : l0_2.length ≤ c0_2) (h : spec_l03Code.f k a0_0 l0_1 l0_2 a1 a2 a3 = some r) :
  Calls Try.prog 51 #[.agg #[.int .i64 a0_0, .slice A0_1 l0_1.length c0_1, .slice A0_2 l0_2.length c0_2], .int .i64 a1, .int .i64 a2, .int .i64 a3] w fun e w' => e = .returned (.int .i64 r) ∧ Below w.heap.size w w' := by
 have hu26 := Try.underlying26
 have HR0_1 := zA hr0_1
 have HC0_1 := zA hc0_1
 clear hr0_1 hc0_1
 have HR0_2 := zA hr0_2
 have HC0_2 := zA hc0_2
 clear hr0_2 hc0_2
 have HB := zA (Below.refl w.heap.size w)
 have H : ((spec_l03Is.f k a0_0 l0_1 l0_2).bind fun t112 => (if t112 = true then ((spec_l01In.f a1 a2 a3).bind fun t113 => (if t113 = true then (some 0) else (some 2))) else (some 1))) = some r := h
 clear h
 replace H := Option.bind_eq_some_iff.mp H
 obtain ⟨t112, A50, H⟩ := H
 replace H : (if t112 = true then ((spec_l01In.f a1 a2 a3).bind fun t113 => (if t113 = true then (some 0) else (some 2))) else (some 1)) = some r := H
 have A5 := zA A50
 clear A50
 by_cases c6 : t112 = true
 ·subst c6
  have H1 : ((spec_l01In.f a1 a2 a3).bind fun t113 => (if t113 = true then (some 0) else (some 2))) = some r := by rw [if_pos rfl] at H; exact H
  clear H
  have H := H1
  clear H1
  replace H := Option.bind_eq_some_iff.mp H
  obtain ⟨t113, A70, H⟩ := H
  replace H : (if t113 = true then (some 0) else (some 2)) = some r := H
  have A7 := zA A70
  clear A70
  by_cases c8 : t113 = true
  ·subst c8
   have H1 : (some 0) = some r := by rw [if_pos rfl] at H; exact H
   clear H
   have H := H1
   clear H1
   obtain rfl := Option.some.inj H
   go_enter Try.func51, Try.ntmps51
   go_wp2_with (first | ((with_reducible refine gate_dst (N := 4) rfl ?_); refine box_event ?hg (N := 4) ?hd (cs := #[.int .i64 a0_0, .slice A0_1 l0_1.length c0_1, .slice A0_2 l0_2.length c0_2]) (t := 26) ?hr ?_; (case hd => rfl); (case hg => rfl); (case hr => first | (go_simp; done) | (go_simp; rfl)); intro gb111 hg w9 hbox hb; have n0_ := xH HB hb; have n1_ := zA (hbox); have n2_ := zA ((by rw [hg]; exact (below_size (uH HB.out)) : w.heap.size ≤ gb111)); have n3_ := zA ((by rw [hg]; exact (below_size (uH HB.out)) : w.heap.size ≤ gb111)); clear HB; have HB := n0_; have BK111 := n1_; have GW111 := n2_; have GE111 := n3_; have := geI GE111; clear n0_ n1_ n2_ n3_ hb hbox hg; have hcz10_0 : w9.cell? ⟨gb111, 0, none⟩ = some (.int .i64 a0_0) := (blk_cell BK111.out 0).trans rfl; have hcz10_1 : w9.cell? ⟨gb111, 1, none⟩ = some (.slice A0_1 l0_1.length c0_1) := (blk_cell BK111.out 1).trans rfl; have hcz10_2 : w9.cell? ⟨gb111, 2, none⟩ = some (.slice A0_2 l0_2.length c0_2) := (blk_cell BK111.out 2).trans rfl; have hfz10_0 := blk_frozen BK111.out 0; have hfz10_1 := blk_frozen BK111.out 1; have hfz10_2 := blk_frozen BK111.out 2) | ((with_reducible refine gate_callee (f := 59) rfl ?_); refine goesL_ (some 11) rfl rfl Try.func59 (by kernel_rfl) rfl #[.agg #[.int .i64 a0_0, .slice A0_1 l0_1.length c0_1, .slice A0_2 l0_2.length c0_2]] rfl (by (try simp only [la, lb, lc]); first | done | rfl | (simp only [ld, le]; rfl)) ?_; (with_reducible refine (spec_l03Is.calls k a0_0 _ _ l0_1 _ _ l0_2 true _ ?side1 ?side2 ?side3 ?side4 A5.out).mono ?_); (case side1 => exact uC ((Kd.C_below HR0_1.out HB.out))); (case side2 => exact HC0_1.out); (case side3 => exact uC ((Kd.C_below HR0_2.out HB.out))); (case side4 => exact HC0_2.out); rintro e w11 ⟨rfl, hb⟩; refine ⟨_, rfl, ?_⟩; have n0_ := xB BK111 hb; have n1_ := xH HB hb; clear BK111 HB; have BK111 := n0_; have HB := n1_; clear n0_ n1_; (try clear hb); (try clear hb2); (try clear hk); (try clear hi)) | ((with_reducible refine gate_callee (f := 61) rfl ?_); refine goesL_ (some 17) rfl rfl Try.func61 (by kernel_rfl) rfl #[.int .i64 a1, .int .i64 a2, .int .i64 a3] rfl (by (try simp only [la, lb, lc]); first | done | rfl | (simp only [ld, le]; rfl)) ?_; (with_reducible refine (spec_l01In.calls a1 a2 a3 true _ A7.out).mono ?_); rintro e w' ⟨rfl, ⟨nd, rfl⟩⟩; refine ⟨_, rfl, ?_⟩))
   go_ret
   exact ⟨by first | rfl | (simp [errW_none, errW_some] <;> rfl) | (simp [*, errW_none, errW_some] <;> rfl), uH HB.out⟩
  ·replace c8 := Bool.eq_false_iff.mpr c8
   subst c8
   have H1 : (some 2) = some r := by rw [if_neg (show ¬ (false = true) by decide)] at H; exact H
   clear H
   have H := H1
   clear H1
   obtain rfl := Option.some.inj H
   go_enter Try.func51, Try.ntmps51
   go_wp2_with (first | ((with_reducible refine gate_dst (N := 4) rfl ?_); refine box_event ?hg (N := 4) ?hd (cs := #[.int .i64 a0_0, .slice A0_1 l0_1.length c0_1, .slice A0_2 l0_2.length c0_2]) (t := 26) ?hr ?_; (case hd => rfl); (case hg => rfl); (case hr => first | (go_simp; done) | (go_simp; rfl)); intro gb111 hg w12 hbox hb; have n0_ := xH HB hb; have n1_ := zA (hbox); have n2_ := zA ((by rw [hg]; exact (below_size (uH HB.out)) : w.heap.size ≤ gb111)); have n3_ := zA ((by rw [hg]; exact (below_size (uH HB.out)) : w.heap.size ≤ gb111)); clear HB; have HB := n0_; have BK111 := n1_; have GW111 := n2_; have GE111 := n3_; have := geI GE111; clear n0_ n1_ n2_ n3_ hb hbox hg; have hcz13_0 : w12.cell? ⟨gb111, 0, none⟩ = some (.int .i64 a0_0) := (blk_cell BK111.out 0).trans rfl; have hcz13_1 : w12.cell? ⟨gb111, 1, none⟩ = some (.slice A0_1 l0_1.length c0_1) := (blk_cell BK111.out 1).trans rfl; have hcz13_2 : w12.cell? ⟨gb111, 2, none⟩ = some (.slice A0_2 l0_2.length c0_2) := (blk_cell BK111.out 2).trans rfl; have hfz13_0 := blk_frozen BK111.out 0; have hfz13_1 := blk_frozen BK111.out 1; have hfz13_2 := blk_frozen BK111.out 2) | ((with_reducible refine gate_callee (f := 59) rfl ?_); refine goesL_ (some 11) rfl rfl Try.func59 (by kernel_rfl) rfl #[.agg #[.int .i64 a0_0, .slice A0_1 l0_1.length c0_1, .slice A0_2 l0_2.length c0_2]] rfl (by (try simp only [la, lb, lc]); first | done | rfl | (simp only [ld, le]; rfl)) ?_; (with_reducible refine (spec_l03Is.calls k a0_0 _ _ l0_1 _ _ l0_2 true _ ?side1 ?side2 ?side3 ?side4 A5.out).mono ?_); (case side1 => exact uC ((Kd.C_below HR0_1.out HB.out))); (case side2 => exact HC0_1.out); (case side3 => exact uC ((Kd.C_below HR0_2.out HB.out))); (case side4 => exact HC0_2.out); rintro e w14 ⟨rfl, hb⟩; refine ⟨_, rfl, ?_⟩; have n0_ := xB BK111 hb; have n1_ := xH HB hb; clear BK111 HB; have BK111 := n0_; have HB := n1_; clear n0_ n1_; (try clear hb); (try clear hb2); (try clear hk); (try clear hi)) | ((with_reducible refine gate_callee (f := 61) rfl ?_); refine goesL_ (some 17) rfl rfl Try.func61 (by kernel_rfl) rfl #[.int .i64 a1, .int .i64 a2, .int .i64 a3] rfl (by (try simp only [la, lb, lc]); first | done | rfl | (simp only [ld, le]; rfl)) ?_; (with_reducible refine (spec_l01In.calls a1 a2 a3 false _ A7.out).mono ?_); rintro e w' ⟨rfl, ⟨nd, rfl⟩⟩; refine ⟨_, rfl, ?_⟩))
   go_ret
   exact ⟨by first | rfl | (simp [errW_none, errW_some] <;> rfl) | (simp [*, errW_none, errW_some] <;> rfl), uH HB.out⟩
 ·replace c6 := Bool.eq_false_iff.mpr c6
  subst c6
  have H1 : (some 1) = some r := by rw [if_neg (show ¬ (false = true) by decide)] at H; exact H
  clear H
  have H := H1
  clear H1
  obtain rfl := Option.some.inj H
  go_enter Try.func51, Try.ntmps51
  go_wp2_with (first | ((with_reducible refine gate_dst (N := 4) rfl ?_); refine box_event ?hg (N := 4) ?hd (cs := #[.int .i64 a0_0, .slice A0_1 l0_1.length c0_1, .slice A0_2 l0_2.length c0_2]) (t := 26) ?hr ?_; (case hd => rfl); (case hg => rfl); (case hr => first | (go_simp; done) | (go_simp; rfl)); intro gb111 hg w15 hbox hb; have n0_ := xH HB hb; have n1_ := zA (hbox); have n2_ := zA ((by rw [hg]; exact (below_size (uH HB.out)) : w.heap.size ≤ gb111)); have n3_ := zA ((by rw [hg]; exact (below_size (uH HB.out)) : w.heap.size ≤ gb111)); clear HB; have HB := n0_; have BK111 := n1_; have GW111 := n2_; have GE111 := n3_; have := geI GE111; clear n0_ n1_ n2_ n3_ hb hbox hg; have hcz16_0 : w15.cell? ⟨gb111, 0, none⟩ = some (.int .i64 a0_0) := (blk_cell BK111.out 0).trans rfl; have hcz16_1 : w15.cell? ⟨gb111, 1, none⟩ = some (.slice A0_1 l0_1.length c0_1) := (blk_cell BK111.out 1).trans rfl; have hcz16_2 : w15.cell? ⟨gb111, 2, none⟩ = some (.slice A0_2 l0_2.length c0_2) := (blk_cell BK111.out 2).trans rfl; have hfz16_0 := blk_frozen BK111.out 0; have hfz16_1 := blk_frozen BK111.out 1; have hfz16_2 := blk_frozen BK111.out 2) | ((with_reducible refine gate_callee (f := 59) rfl ?_); refine goesL_ (some 11) rfl rfl Try.func59 (by kernel_rfl) rfl #[.agg #[.int .i64 a0_0, .slice A0_1 l0_1.length c0_1, .slice A0_2 l0_2.length c0_2]] rfl (by (try simp only [la, lb, lc]); first | done | rfl | (simp only [ld, le]; rfl)) ?_; (with_reducible refine (spec_l03Is.calls k a0_0 _ _ l0_1 _ _ l0_2 false _ ?side1 ?side2 ?side3 ?side4 A5.out).mono ?_); (case side1 => exact uC ((Kd.C_below HR0_1.out HB.out))); (case side2 => exact HC0_1.out); (case side3 => exact uC ((Kd.C_below HR0_2.out HB.out))); (case side4 => exact HC0_2.out); rintro e w17 ⟨rfl, hb⟩; refine ⟨_, rfl, ?_⟩; have n0_ := xB BK111 hb; have n1_ := xH HB hb; clear BK111 HB; have BK111 := n0_; have HB := n1_; clear n0_ n1_; (try clear hb); (try clear hb2); (try clear hk); (try clear hi)))
  go_ret
  exact ⟨by first | rfl | (simp [errW_none, errW_some] <;> rfl) | (simp [*, errW_none, errW_some] <;> rfl), uH HB.out⟩

end Go.Proofs.Ytgneldhhlfjjaaa.Pr
/- Printed by a program of this session out of the translation: what these functions of the program compute, under the conditions that each theorem names. -/
namespace Go.Proofs.Ytgneldhhlfjjaaa.Pr
open Go.RowKit Go.Proofs.YtgneldhhlfjjaaaW.PrintWords Go.Proofs.YtgneldhhlfjjaaaW.PrintLast Go.Proofs.YtgneldhhlfjjaaaW.PrintMore
attribute [local go_sem] max2_int min2_int max_two min_two max_three min_three max_four min_four   -- for this text's walks alone
set_option linter.unusedVariables false
set_option linter.unusedSimpArgs false

/-! ### spec_WronskiAt: function 42 -/
def spec_WronskiAt.f (k : Nat) (a0_0 : Int) (l0_1 : List Int) (l0_2 : List Int) (a1 : Int) : Option (List Int × Int) := (spec_l03Code.f k a0_0 l0_1 l0_2 a1 0 (wrap64 ((l0_1.length : Int) - 1))).bind fun t949 => (if t949 = 0 then ((spec_l03Poly.f k a0_0 l0_1 l0_2 a1).bind fun t950 => ((spec_l03Second.f k a0_0 l0_1 l0_2 (wrap64 (a1 + 1))).bind fun t953 => ((spec_l01Times.f k a0_0 t950 t953).bind fun t956 => ((spec_l03Second.f k a0_0 l0_1 l0_2 a1).bind fun t959 => ((spec_l03Poly.f k a0_0 l0_1 l0_2 (wrap64 (a1 + 1))).bind fun t962 => ((spec_l01Times.f k a0_0 t959 t962).bind fun t965 => ((spec_l01Add.f k a0_0 t956 t965 (wrap64 (a0_0 - 1))).bind fun t968 => (some (t968, 0))))))))) else (some (([] : List Int), t949)))
theorem spec_WronskiAt.mono : ∀ a0 a1 a2 a3 k, LeO (spec_WronskiAt.f k a0 a1 a2 a3) (spec_WronskiAt.f (k + 1) a0 a1 a2 a3) := by
 intro a0 a1 a2 a3 k
 unfold spec_WronskiAt.f
 repeat' first
   | (with_reducible exact spec_l01Add.mono _ _ _ _ _)
   | (with_reducible exact spec_l01Times.mono _ _ _ _)
   | (with_reducible exact spec_l03Code.mono _ _ _ _ _ _ _)
   | (with_reducible exact spec_l03Poly.mono _ _ _ _ _)
   | (with_reducible exact spec_l03Second.mono _ _ _ _ _)
   | (with_reducible exact LeO.refl _)
   | (with_reducible exact LeO.none _)
   | (with_reducible refine LeO.ite ?_ ?_)
   | (with_reducible refine LeO.bind ?_ (fun _ => ?_))
   | exact spec_l01Add.mono _ _ _ _ _
   | exact spec_l01Times.mono _ _ _ _
   | exact spec_l03Code.mono _ _ _ _ _ _ _
   | exact spec_l03Poly.mono _ _ _ _ _
   | exact spec_l03Second.mono _ _ _ _ _
   | exact LeO.none _
   | refine LeO.ite ?_ ?_
   | refine LeO.bind ?_ (fun _ => ?_)
def spec_WronskiAt.T5 : Bool × List (List Nat × List Nat) := (true, [([], []), ([], []), ([], []), ([1, 2], [1, 2]), ([], []), ([], []), ([5], [5]), ([4, 6, 3], [4, 6]), ([0, 3, 7, 7], [0, 3, 7]), ([], []), ([], []), ([], []), ([10, 11, 8], [10, 11]), ([], []), ([], []), ([14], [14]), ([13, 15, 12], [13, 15]), ([9, 12, 16, 16], [9, 12, 16]), ([8, 17, 0, 1, 2, 3, 4, 5, 6, 7, 8], [8]), ([17, 18, 0, 1, 2, 3, 4, 5, 6, 7, 8, 9, 10, 11, 12, 13, 14, 15, 16, 17, 18], [17])])
def spec_WronskiAt.B5 : List Nat := [0, 0, 0, 6, 0, 0, 32, 126, 255, 0, 0, 0, 3583, 0, 0, 16384, 65023, 131071, 262143, 524287]
theorem spec_WronskiAt.tab5 : rtab .any (opsOf Try.f42 5) = spec_WronskiAt.T5 := by kernel_rfl
theorem spec_WronskiAt.bits5 : waitsOk spec_WronskiAt.T5.2 spec_WronskiAt.B5 = true := by kernel_rfl
set_option maxHeartbeats 8000000 in
set_option maxRecDepth 100000 in
theorem spec_WronskiAt.calls (k : Nat) (a0_0 : Int) (A0_1 : Option Addr) (c0_1 : Nat) (l0_1 : List Int) (A0_2 : Option Addr) (c0_2 : Nat) (l0_2 : List Int) (a1 : Int) (r1 : List Int) (r2 : Int) (w : World) (hr0_1 : Kd.C (Kd.int .i64) w A0_1 l0_1.length l0_1) (hc0_1 : l0_1.length ≤ c0_1) (hr0_2 : Kd.C (Kd.int .i64) w A0_2 l0_2.length l0_2) (hc0_2 : l0_2.length ≤ c0_2) (h : spec_WronskiAt.f k a0_0 l0_1 l0_2 a1 = some (r1, r2)) :
  Calls Try.prog 42 #[.agg #[.int .i64 a0_0, .slice A0_1 l0_1.length c0_1, .slice A0_2 l0_2.length c0_2], .int .i64 a1] w fun e w' => ∃ v0_ : Value, e = .returned (.tuple #[v0_, .int .i64 r2]) ∧ Kd.R (Kd.int .i64) 2 w' w.heap.size (fun _ => True) v0_ r1 ∧ Below w.heap.size w w' := by
 have hu26 := Try.underlying26
 have HR0_1 := zA hr0_1
 have HC0_1 := zA hc0_1
 clear hr0_1 hc0_1
 have HR0_2 := zA hr0_2
 have HC0_2 := zA hc0_2
 clear hr0_2 hc0_2
 have HB := zA (Below.refl w.heap.size w)
 have H : ((spec_l03Code.f k a0_0 l0_1 l0_2 a1 0 (wrap64 ((l0_1.length : Int) - 1))).bind fun t949 => (if t949 = 0 then ((spec_l03Poly.f k a0_0 l0_1 l0_2 a1).bind fun t950 => ((spec_l03Second.f k a0_0 l0_1 l0_2 (wrap64 (a1 + 1))).bind fun t953 => ((spec_l01Times.f k a0_0 t950 t953).bind fun t956 => ((spec_l03Second.f k a0_0 l0_1 l0_2 a1).bind fun t959 => ((spec_l03Poly.f k a0_0 l0_1 l0_2 (wrap64 (a1 + 1))).bind fun t962 => ((spec_l01Times.f k a0_0 t959 t962).bind fun t965 => ((spec_l01Add.f k a0_0 t956 t965 (wrap64 (a0_0 - 1))).bind fun t968 => (some (t968, 0))))))))) else (some (([] : List Int), t949)))) = some (r1, r2) := h
 clear h
 replace H := Option.bind_eq_some_iff.mp H
 obtain ⟨t949, A30, H⟩ := H
 replace H : (if t949 = 0 then ((spec_l03Poly.f k a0_0 l0_1 l0_2 a1).bind fun t950 => ((spec_l03Second.f k a0_0 l0_1 l0_2 (wrap64 (a1 + 1))).bind fun t953 => ((spec_l01Times.f k a0_0 t950 t953).bind fun t956 => ((spec_l03Second.f k a0_0 l0_1 l0_2 a1).bind fun t959 => ((spec_l03Poly.f k a0_0 l0_1 l0_2 (wrap64 (a1 + 1))).bind fun t962 => ((spec_l01Times.f k a0_0 t959 t962).bind fun t965 => ((spec_l01Add.f k a0_0 t956 t965 (wrap64 (a0_0 - 1))).bind fun t968 => (some (t968, 0))))))))) else (some (([] : List Int), t949))) = some (r1, r2) := H
 have A3 := zA A30
 clear A30
 by_cases c4 : t949 = 0
 ·rw [if_pos c4] at H
  have c4b0 : (t949 == 0) = true := beq_iff_eq.mpr c4
  have c4b1 : (t949 != 0) = false := bne_eq_false_iff_eq.mpr c4
  clear c4
  replace H := Option.bind_eq_some_iff.mp H
  obtain ⟨t950, A50, H⟩ := H
  replace H : ((spec_l03Second.f k a0_0 l0_1 l0_2 (wrap64 (a1 + 1))).bind fun t953 => ((spec_l01Times.f k a0_0 t950 t953).bind fun t956 => ((spec_l03Second.f k a0_0 l0_1 l0_2 a1).bind fun t959 => ((spec_l03Poly.f k a0_0 l0_1 l0_2 (wrap64 (a1 + 1))).bind fun t962 => ((spec_l01Times.f k a0_0 t959 t962).bind fun t965 => ((spec_l01Add.f k a0_0 t956 t965 (wrap64 (a0_0 - 1))).bind fun t968 => (some (t968, 0)))))))) = some (r1, r2) := H
  have A5 := zA A50
  clear A50
  replace H := Option.bind_eq_some_iff.mp H
  obtain ⟨t953, A60, H⟩ := H
  replace H : ((spec_l01Times.f k a0_0 t950 t953).bind fun t956 => ((spec_l03Second.f k a0_0 l0_1 l0_2 a1).bind fun t959 => ((spec_l03Poly.f k a0_0 l0_1 l0_2 (wrap64 (a1 + 1))).bind fun t962 => ((spec_l01Times.f k a0_0 t959 t962).bind fun t965 => ((spec_l01Add.f k a0_0 t956 t965 (wrap64 (a0_0 - 1))).bind fun t968 => (some (t968, 0))))))) = some (r1, r2) := H
  have A6 := zA A60
  clear A60
  replace H := Option.bind_eq_some_iff.mp H
  obtain ⟨t956, A70, H⟩ := H
  replace H : ((spec_l03Second.f k a0_0 l0_1 l0_2 a1).bind fun t959 => ((spec_l03Poly.f k a0_0 l0_1 l0_2 (wrap64 (a1 + 1))).bind fun t962 => ((spec_l01Times.f k a0_0 t959 t962).bind fun t965 => ((spec_l01Add.f k a0_0 t956 t965 (wrap64 (a0_0 - 1))).bind fun t968 => (some (t968, 0)))))) = some (r1, r2) := H
  have A7 := zA A70
  clear A70
  replace H := Option.bind_eq_some_iff.mp H
  obtain ⟨t959, A80, H⟩ := H
  replace H : ((spec_l03Poly.f k a0_0 l0_1 l0_2 (wrap64 (a1 + 1))).bind fun t962 => ((spec_l01Times.f k a0_0 t959 t962).bind fun t965 => ((spec_l01Add.f k a0_0 t956 t965 (wrap64 (a0_0 - 1))).bind fun t968 => (some (t968, 0))))) = some (r1, r2) := H
  have A8 := zA A80
  clear A80
  replace H := Option.bind_eq_some_iff.mp H
  obtain ⟨t962, A90, H⟩ := H
  replace H : ((spec_l01Times.f k a0_0 t959 t962).bind fun t965 => ((spec_l01Add.f k a0_0 t956 t965 (wrap64 (a0_0 - 1))).bind fun t968 => (some (t968, 0)))) = some (r1, r2) := H
  have A9 := zA A90
  clear A90
  replace H := Option.bind_eq_some_iff.mp H
  obtain ⟨t965, A100, H⟩ := H
  replace H : ((spec_l01Add.f k a0_0 t956 t965 (wrap64 (a0_0 - 1))).bind fun t968 => (some (t968, 0))) = some (r1, r2) := H
  have A10 := zA A100
  clear A100
  replace H := Option.bind_eq_some_iff.mp H
  obtain ⟨t968, A110, H⟩ := H
  replace H : (some (t968, 0)) = some (r1, r2) := H
  have A11 := zA A110
  clear A110
  simp only [Option.some.injEq, Prod.mk.injEq] at H
  obtain ⟨rfl, rfl⟩ := H
  go_enter Try.func42, Try.ntmps42
  try go_wp2_with (first | ((with_reducible refine gate_dst (N := 2) rfl ?_); refine box_event ?hg (N := 2) ?hd (cs := #[.int .i64 a0_0, .slice A0_1 l0_1.length c0_1, .slice A0_2 l0_2.length c0_2]) (t := 26) ?hr ?_; (case hd => rfl); (case hg => rfl); (case hr => first | (go_simp; done) | (go_simp; rfl)); intro gb948 hg w12 hbox hb; have n0_ := xH HB hb; have n1_ := zA (hbox); have n2_ := zA ((by rw [hg]; exact (below_size (uH HB.out)) : w.heap.size ≤ gb948)); have n3_ := zA ((by rw [hg]; exact (below_size (uH HB.out)) : w.heap.size ≤ gb948)); clear HB; have HB := n0_; have BK948 := n1_; have GW948 := n2_; have GE948 := n3_; have := geI GE948; clear n0_ n1_ n2_ n3_ hb hbox hg; have hcz13_0 : w12.cell? ⟨gb948, 0, none⟩ = some (.int .i64 a0_0) := (blk_cell BK948.out 0).trans rfl; have hcz13_1 : w12.cell? ⟨gb948, 1, none⟩ = some (.slice A0_1 l0_1.length c0_1) := (blk_cell BK948.out 1).trans rfl; have hcz13_2 : w12.cell? ⟨gb948, 2, none⟩ = some (.slice A0_2 l0_2.length c0_2) := (blk_cell BK948.out 2).trans rfl; have hfz13_0 := blk_frozen BK948.out 0; have hfz13_1 := blk_frozen BK948.out 1; have hfz13_2 := blk_frozen BK948.out 2) | ((with_reducible refine gate_callee (f := 51) rfl ?_); refine goesL_ (some 16) rfl rfl Try.func51 (by kernel_rfl) rfl #[.agg #[.int .i64 a0_0, .slice A0_1 l0_1.length c0_1, .slice A0_2 l0_2.length c0_2], .int .i64 a1, .int .i64 0, .int .i64 (wrap64 ((l0_1.length : Int) - 1))] rfl (by (try simp only [la, lb, lc]); first | done | rfl | (simp only [ld, le]; rfl)) ?_; (with_reducible refine (spec_l03Code.calls k a0_0 _ _ l0_1 _ _ l0_2 a1 0 (wrap64 ((l0_1.length : Int) - 1)) t949 _ ?side1 ?side2 ?side3 ?side4 A3.out).mono ?_); (case side1 => exact uC ((Kd.C_below HR0_1.out HB.out))); (case side2 => exact HC0_1.out); (case side3 => exact uC ((Kd.C_below HR0_2.out HB.out))); (case side4 => exact HC0_2.out); rintro e w14 ⟨rfl, hb⟩; refine ⟨_, rfl, ?_⟩; have n0_ := xB BK948 hb; have n1_ := xH HB hb; clear BK948 HB; have BK948 := n0_; have HB := n1_; clear n0_ n1_; (try clear hb); (try clear hb2); (try clear hk); (try clear hi); have hcz15_0 : w14.cell? ⟨gb948, 0, none⟩ = some (.int .i64 a0_0) := (blk_cell BK948.out 0).trans rfl; have hcz15_1 : w14.cell? ⟨gb948, 1, none⟩ = some (.slice A0_1 l0_1.length c0_1) := (blk_cell BK948.out 1).trans rfl; have hcz15_2 : w14.cell? ⟨gb948, 2, none⟩ = some (.slice A0_2 l0_2.length c0_2) := (blk_cell BK948.out 2).trans rfl; have hfz15_0 := blk_frozen BK948.out 0; have hfz15_1 := blk_frozen BK948.out 1; have hfz15_2 := blk_frozen BK948.out 2))
  have n0_ := zA (blk_drew BK948.out)
  have n1_ := zA (below_drew1 HB.out)
  clear BK948 HB
  have BK948 := n0_; have HB := n1_
  clear n0_ n1_
  refine start_ (n := 20) (S := fun w' => w'.cell? ⟨gb948, 0, none⟩ = some (.int .i64 a0_0) ∧ w'.cell? ⟨gb948, 1, none⟩ = some (.slice A0_1 l0_1.length c0_1) ∧ w'.cell? ⟨gb948, 2, none⟩ = some (.slice A0_2 l0_2.length c0_2)) (ds := []) #[false, false, false, false, false, false, false, false, false, false, false, false, false, false, false, false, false, false, false, false] (by kernel_rfl) rfl rfl ⟨(blk_cell BK948.out 0).trans rfl, (blk_cell BK948.out 1).trans rfl, (blk_cell BK948.out 2).trans rfl⟩ (fun hHeld => ?_); refine with_tabW spec_WronskiAt.tab5 spec_WronskiAt.bits5 (fun HT_ HW_ => ?_)
  generalize w14.drew = w16 at BK948 HB hHeld ⊢
  refine pure_ (i := 0) (N := some 22) (v := ?_) (a' := ?_) #[true, false, false, false, false, false, false, false, false, false, false, false, false, false, false, false, false, false, false, false] rfl rfl (any_of HT_.out (by kernel_rfl)) (fun _ _ _ h => h) (Or.inl ⟨by rfl, ?_⟩) ?_ ?_
  rotate_left
  ·intro w'
   go_simp
   with_reducible rfl
  rotate_left
  ·simp only [Act.put, ls, lz, ln, i64_w, i32_w]
   rfl
  refine pure_ (i := 2) (N := some 24) (v := ?_) (a' := ?_) #[true, false, true, false, false, false, false, false, false, false, false, false, false, false, false, false, false, false, false, false] rfl rfl (any_of HT_.out (by kernel_rfl)) (fun _ _ _ h => h) (Or.inl ⟨by rfl, ?_⟩) ?_ ?_
  rotate_left
  ·intro w'
   go_simp
   with_reducible rfl
  rotate_left
  ·simp only [Act.put, ls, lz, ln, i64_w, i32_w]
   rfl
  refine pure_ (i := 5) (N := some 27) (v := ?_) (a' := ?_) #[true, false, true, false, false, true, false, false, false, false, false, false, false, false, false, false, false, false, false, false] rfl rfl (any_of HT_.out (by kernel_rfl)) (fun _ _ _ h => h) (Or.inl ⟨by rfl, ?_⟩) ?_ ?_
  rotate_left
  ·intro w'
   go_simp
   with_reducible rfl
  rotate_left
  ·simp only [Act.put, ls, lz, ln, i64_w, i32_w]
   rfl
  refine pure_ (i := 6) (N := some 28) (v := ?_) (a' := ?_) #[true, false, true, false, false, true, true, false, false, false, false, false, false, false, false, false, false, false, false, false] rfl rfl (any_of HT_.out (by kernel_rfl)) (fun _ _ _ h => h) (Or.inl ⟨by rfl, ?_⟩) ?_ ?_
  rotate_left
  ·intro w'
   go_simp
   with_reducible rfl
  rotate_left
  ·simp only [Act.put, ls, lz, ln, i64_w, i32_w]
   rfl
  refine pure_ (i := 9) (N := some 31) (v := ?_) (a' := ?_) #[true, false, true, false, false, true, true, false, false, true, false, false, false, false, false, false, false, false, false, false] rfl rfl (any_of HT_.out (by kernel_rfl)) (fun _ _ _ h => h) (Or.inl ⟨by rfl, ?_⟩) ?_ ?_
  rotate_left
  ·intro w'
   go_simp
   with_reducible rfl
  rotate_left
  ·simp only [Act.put, ls, lz, ln, i64_w, i32_w]
   rfl
  refine pure_ (i := 11) (N := some 33) (v := ?_) (a' := ?_) #[true, false, true, false, false, true, true, false, false, true, false, true, false, false, false, false, false, false, false, false] rfl rfl (any_of HT_.out (by kernel_rfl)) (fun _ _ _ h => h) (Or.inl ⟨by rfl, ?_⟩) ?_ ?_
  rotate_left
  ·intro w'
   go_simp
   with_reducible rfl
  rotate_left
  ·simp only [Act.put, ls, lz, ln, i64_w, i32_w]
   rfl
  refine pure_ (i := 14) (N := some 36) (v := ?_) (a' := ?_) #[true, false, true, false, false, true, true, false, false, true, false, true, false, false, true, false, false, false, false, false] rfl rfl (any_of HT_.out (by kernel_rfl)) (fun _ _ _ h => h) (Or.inl ⟨by rfl, ?_⟩) ?_ ?_
  rotate_left
  ·intro w'
   go_simp
   with_reducible rfl
  rotate_left
  ·simp only [Act.put, ls, lz, ln, i64_w, i32_w]
   rfl
  refine pure_ (i := 15) (N := some 37) (v := ?_) (a' := ?_) #[true, false, true, false, false, true, true, false, false, true, false, true, false, false, true, true, false, false, false, false] rfl rfl (any_of HT_.out (by kernel_rfl)) (fun _ _ _ h => h) (Or.inl ⟨by rfl, ?_⟩) ?_ ?_
  rotate_left
  ·intro w'
   go_simp
   with_reducible rfl
  rotate_left
  ·simp only [Act.put, ls, lz, ln, i64_w, i32_w]
   rfl
  refine take_ (i := 1) (N := some 23) (v := ?_) (a' := ?_) #[true, true, true, false, false, true, true, false, false, true, false, true, false, false, true, true, false, false, false, false] rfl rfl (take_ofW HT_.out HW_.out (by kernel_rfl)) (fun _ _ _ h => h) (Or.inl ⟨by rfl, ?_⟩) hHeld ?_ ?_
  rotate_left
  ·rintro w' ⟨s0, s1, s2⟩
   go_simp
   with_reducible rfl
  rotate_left
  ·simp only [Act.put, ls, lz, ln, i64_w, i32_w]
   rfl
  refine take_ (i := 4) (N := some 26) (v := ?_) (a' := ?_) #[true, true, true, false, true, true, true, false, false, true, false, true, false, false, true, true, false, false, false, false] rfl rfl (take_ofW HT_.out HW_.out (by kernel_rfl)) (fun _ _ _ h => h) (Or.inl ⟨by rfl, ?_⟩) hHeld ?_ ?_
  rotate_left
  ·rintro w' ⟨s0, s1, s2⟩
   go_simp
   with_reducible rfl
  rotate_left
  ·simp only [Act.put, ls, lz, ln, i64_w, i32_w]
   rfl
  refine take_ (i := 10) (N := some 32) (v := ?_) (a' := ?_) #[true, true, true, false, true, true, true, false, false, true, true, true, false, false, true, true, false, false, false, false] rfl rfl (take_ofW HT_.out HW_.out (by kernel_rfl)) (fun _ _ _ h => h) (Or.inl ⟨by rfl, ?_⟩) hHeld ?_ ?_
  rotate_left
  ·rintro w' ⟨s0, s1, s2⟩
   go_simp
   with_reducible rfl
  rotate_left
  ·simp only [Act.put, ls, lz, ln, i64_w, i32_w]
   rfl
  refine take_ (i := 13) (N := some 35) (v := ?_) (a' := ?_) #[true, true, true, false, true, true, true, false, false, true, true, true, false, true, true, true, false, false, false, false] rfl rfl (take_ofW HT_.out HW_.out (by kernel_rfl)) (fun _ _ _ h => h) (Or.inl ⟨by rfl, ?_⟩) hHeld ?_ ?_
  rotate_left
  ·rintro w' ⟨s0, s1, s2⟩
   go_simp
   with_reducible rfl
  rotate_left
  ·simp only [Act.put, ls, lz, ln, i64_w, i32_w]
   rfl
  refine one_ (i := 3) (N := some 25) #[true, true, true, true, true, true, true, false, false, true, true, true, false, true, true, true, false, false, false, false] rfl rfl (one_of HT_.out (by kernel_rfl)) (by decide) (fun K hK => ?_)
  refine goes_ Try.func71 (by kernel_rfl) rfl #[.agg #[.int .i64 a0_0, .slice A0_1 l0_1.length c0_1, .slice A0_2 l0_2.length c0_2], .int .i64 a1] (by rfl) rfl rfl (by (try simp only [la, lb, lc]); first | done | rfl | (simp only [ld, le]; rfl)) ?_
  with_reducible refine (spec_l03Poly.calls k a0_0 _ _ l0_1 _ _ l0_2 a1 t950 _ ?side1 ?side2 ?side3 ?side4 A5.out).mono ?_
  (case side1 => exact uC ((Kd.C_below HR0_1.out HB.out)))
  (case side2 => exact HC0_1.out)
  (case side3 => exact uC ((Kd.C_below HR0_2.out HB.out)))
  (case side4 => exact HC0_2.out)
  rintro e w17 ⟨v951, rfl, ho0, hb⟩
  refine ⟨_, rfl, ?_⟩
  have n0_ := zA (Kd.R_lower ho0 (below_size (uH HB.out)))
  have n1_ := xB BK948 hb
  have n2_ := xH HB hb
  clear BK948 HB
  have HO952 := n0_; have BK948 := n1_; have HB := n2_
  clear n0_ n1_ n2_
  (try clear hb); (try clear hb2); (try clear hk); (try clear hi); (try clear ho0)
  refine hK.out _ _ ⟨(blk_cell BK948.out 0).trans rfl, (blk_cell BK948.out 1).trans rfl, (blk_cell BK948.out 2).trans rfl⟩ (fun hHeld => ?_)
  clear hK K
  refine norm_ (a' := ?_) ?_ ?_
  rotate_left
  ·show Act.put _ (some 25) _ = _
   simp only [Act.put, ls, lz, ln, i64_w, i32_w]
   rfl
  refine one_ (i := 7) (N := some 29) #[true, true, true, true, true, true, true, true, false, true, true, true, false, true, true, true, false, false, false, false] rfl rfl (one_of HT_.out (by kernel_rfl)) (by decide) (fun K hK => ?_)
  refine goes_ Try.func69 (by kernel_rfl) rfl #[.agg #[.int .i64 a0_0, .slice A0_1 l0_1.length c0_1, .slice A0_2 l0_2.length c0_2], .int .i64 (wrap64 (a1 + 1))] (by rfl) rfl rfl (by (try simp only [la, lb, lc]); first | done | rfl | (simp only [ld, le]; rfl)) ?_
  with_reducible refine (spec_l03Second.calls k a0_0 _ _ l0_1 _ _ l0_2 (wrap64 (a1 + 1)) t953 _ ?side1 ?side2 ?side3 ?side4 A6.out).mono ?_
  (case side1 => exact uC ((Kd.C_below HR0_1.out HB.out)))
  (case side2 => exact HC0_1.out)
  (case side3 => exact uC ((Kd.C_below HR0_2.out HB.out)))
  (case side4 => exact HC0_2.out)
  rintro e w18 ⟨v954, rfl, ho0, hb⟩
  refine ⟨_, rfl, ?_⟩
  have n0_ := zA (Kd.R_elder' (uR HO952.out) (Kd.R_base ho0) hb)
  have n1_ := zA (Kd.R_lower (Kd.R_new' ho0 (Kd.R_lt (uR HO952.out))) (below_size (uH HB.out)))
  have n2_ := xB BK948 hb
  have n3_ := xH HB hb
  clear HO952 BK948 HB
  have HO952 := n0_; have HO955 := n1_; have BK948 := n2_; have HB := n3_
  clear n0_ n1_ n2_ n3_
  (try clear hb); (try clear hb2); (try clear hk); (try clear hi); (try clear ho0)
  obtain ⟨Ao19, co19, eo19⟩ := Kd.R_slice HO952.out
  (first | subst eo19 | (injection eo19 with f1_ f2_ f3_; have f4_ := f1_.symm; have f5_ := f3_.symm; clear f1_ f2_ f3_; subst f4_; subst f5_))
  obtain ⟨Ao20, co20, eo20⟩ := Kd.R_slice HO955.out
  (first | subst eo20 | (injection eo20 with f1_ f2_ f3_; have f4_ := f1_.symm; have f5_ := f3_.symm; clear f1_ f2_ f3_; subst f4_; subst f5_))
  refine hK.out _ _ ⟨(blk_cell BK948.out 0).trans rfl, (blk_cell BK948.out 1).trans rfl, (blk_cell BK948.out 2).trans rfl⟩ (fun hHeld => ?_)
  clear hK K
  refine norm_ (a' := ?_) ?_ ?_
  rotate_left
  ·show Act.put _ (some 29) _ = _
   simp only [Act.put, ls, lz, ln, i64_w, i32_w]
   rfl
  refine one_ (i := 8) (N := some 30) #[true, true, true, true, true, true, true, true, true, true, true, true, false, true, true, true, false, false, false, false] rfl rfl (one_of HT_.out (by kernel_rfl)) (by decide) (fun K hK => ?_)
  refine goes_ Try.func75 (by kernel_rfl) rfl #[.int .i64 a0_0, .slice Ao19 t950.length co19, .slice Ao20 t953.length co20] (by rfl) rfl rfl (by (try simp only [la, lb, lc]); first | done | rfl | (simp only [ld, le]; rfl)) ?_
  with_reducible refine (spec_l01Times.calls k a0_0 _ _ t950 _ _ t953 t956 _ ?side1 ?side2 ?side3 ?side4 A7.out).mono ?_
  (case side1 => exact uC ((Kd.R_reads' HO952.out).2.2))
  (case side2 => exact (Kd.R_reads' HO952.out).2.1)
  (case side3 => exact uC ((Kd.R_reads' HO955.out).2.2))
  (case side4 => exact (Kd.R_reads' HO955.out).2.1)
  rintro e w21 ⟨v957, rfl, ho0, hb⟩
  refine ⟨_, rfl, ?_⟩
  have n0_ := zA (Kd.R_elder' (uR HO952.out) (Kd.R_base ho0) hb)
  have n1_ := zA (Kd.R_elder' (uR HO955.out) (Kd.R_base ho0) hb)
  have n2_ := zA (Kd.R_lower (Kd.R_new' (Kd.R_new' ho0 (Kd.R_lt (uR HO952.out))) (Kd.R_lt (uR HO955.out))) (below_size (uH HB.out)))
  have n3_ := xB BK948 hb
  have n4_ := xH HB hb
  clear HO952 HO955 BK948 HB
  have HO952 := n0_; have HO955 := n1_; have HO958 := n2_; have BK948 := n3_; have HB := n4_
  clear n0_ n1_ n2_ n3_ n4_
  (try clear hb); (try clear hb2); (try clear hk); (try clear hi); (try clear ho0)
  refine hK.out _ _ ⟨(blk_cell BK948.out 0).trans rfl, (blk_cell BK948.out 1).trans rfl, (blk_cell BK948.out 2).trans rfl⟩ (fun hHeld => ?_)
  clear hK K
  refine norm_ (a' := ?_) ?_ ?_
  rotate_left
  ·show Act.put _ (some 30) _ = _
   simp only [Act.put, ls, lz, ln, i64_w, i32_w]
   rfl
  refine one_ (i := 12) (N := some 34) #[true, true, true, true, true, true, true, true, true, true, true, true, true, true, true, true, false, false, false, false] rfl rfl (one_of HT_.out (by kernel_rfl)) (by decide) (fun K hK => ?_)
  refine goes_ Try.func69 (by kernel_rfl) rfl #[.agg #[.int .i64 a0_0, .slice A0_1 l0_1.length c0_1, .slice A0_2 l0_2.length c0_2], .int .i64 a1] (by rfl) rfl rfl (by (try simp only [la, lb, lc]); first | done | rfl | (simp only [ld, le]; rfl)) ?_
  with_reducible refine (spec_l03Second.calls k a0_0 _ _ l0_1 _ _ l0_2 a1 t959 _ ?side1 ?side2 ?side3 ?side4 A8.out).mono ?_
  (case side1 => exact uC ((Kd.C_below HR0_1.out HB.out)))
  (case side2 => exact HC0_1.out)
  (case side3 => exact uC ((Kd.C_below HR0_2.out HB.out)))
  (case side4 => exact HC0_2.out)
  rintro e w22 ⟨v960, rfl, ho0, hb⟩
  refine ⟨_, rfl, ?_⟩
  have n0_ := zA (Kd.R_elder' (uR HO952.out) (Kd.R_base ho0) hb)
  have n1_ := zA (Kd.R_elder' (uR HO955.out) (Kd.R_base ho0) hb)
  have n2_ := zA (Kd.R_elder' (uR HO958.out) (Kd.R_base ho0) hb)
  have n3_ := zA (Kd.R_lower (Kd.R_new' (Kd.R_new' (Kd.R_new' ho0 (Kd.R_lt (uR HO952.out))) (Kd.R_lt (uR HO955.out))) (Kd.R_lt (uR HO958.out))) (below_size (uH HB.out)))
  have n4_ := xB BK948 hb
  have n5_ := xH HB hb
  clear HO952 HO955 HO958 BK948 HB
  have HO952 := n0_; have HO955 := n1_; have HO958 := n2_; have HO961 := n3_; have BK948 := n4_; have HB := n5_
  clear n0_ n1_ n2_ n3_ n4_ n5_
  (try clear hb); (try clear hb2); (try clear hk); (try clear hi); (try clear ho0)
  refine hK.out _ _ ⟨(blk_cell BK948.out 0).trans rfl, (blk_cell BK948.out 1).trans rfl, (blk_cell BK948.out 2).trans rfl⟩ (fun hHeld => ?_)
  clear hK K
  refine norm_ (a' := ?_) ?_ ?_
  rotate_left
  ·show Act.put _ (some 34) _ = _
   simp only [Act.put, ls, lz, ln, i64_w, i32_w]
   rfl
  refine one_ (i := 16) (N := some 38) #[true, true, true, true, true, true, true, true, true, true, true, true, true, true, true, true, true, false, false, false] rfl rfl (one_of HT_.out (by kernel_rfl)) (by decide) (fun K hK => ?_)
  refine goes_ Try.func71 (by kernel_rfl) rfl #[.agg #[.int .i64 a0_0, .slice A0_1 l0_1.length c0_1, .slice A0_2 l0_2.length c0_2], .int .i64 (wrap64 (a1 + 1))] (by rfl) rfl rfl (by (try simp only [la, lb, lc]); first | done | rfl | (simp only [ld, le]; rfl)) ?_
  with_reducible refine (spec_l03Poly.calls k a0_0 _ _ l0_1 _ _ l0_2 (wrap64 (a1 + 1)) t962 _ ?side1 ?side2 ?side3 ?side4 A9.out).mono ?_
  (case side1 => exact uC ((Kd.C_below HR0_1.out HB.out)))
  (case side2 => exact HC0_1.out)
  (case side3 => exact uC ((Kd.C_below HR0_2.out HB.out)))
  (case side4 => exact HC0_2.out)
  rintro e w23 ⟨v963, rfl, ho0, hb⟩
  refine ⟨_, rfl, ?_⟩
  have n0_ := zA (Kd.R_elder' (uR HO952.out) (Kd.R_base ho0) hb)
  have n1_ := zA (Kd.R_elder' (uR HO955.out) (Kd.R_base ho0) hb)
  have n2_ := zA (Kd.R_elder' (uR HO958.out) (Kd.R_base ho0) hb)
  have n3_ := zA (Kd.R_elder' (uR HO961.out) (Kd.R_base ho0) hb)
  have n4_ := zA (Kd.R_lower (Kd.R_new' (Kd.R_new' (Kd.R_new' (Kd.R_new' ho0 (Kd.R_lt (uR HO952.out))) (Kd.R_lt (uR HO955.out))) (Kd.R_lt (uR HO958.out))) (Kd.R_lt (uR HO961.out))) (below_size (uH HB.out)))
  have n5_ := xB BK948 hb
  have n6_ := xH HB hb
  clear HO952 HO955 HO958 HO961 BK948 HB
  have HO952 := n0_; have HO955 := n1_; have HO958 := n2_; have HO961 := n3_; have HO964 := n4_; have BK948 := n5_; have HB := n6_
  clear n0_ n1_ n2_ n3_ n4_ n5_ n6_
  (try clear hb); (try clear hb2); (try clear hk); (try clear hi); (try clear ho0)
  obtain ⟨Ao24, co24, eo24⟩ := Kd.R_slice HO961.out
  (first | subst eo24 | (injection eo24 with f1_ f2_ f3_; have f4_ := f1_.symm; have f5_ := f3_.symm; clear f1_ f2_ f3_; subst f4_; subst f5_))
  obtain ⟨Ao25, co25, eo25⟩ := Kd.R_slice HO964.out
  (first | subst eo25 | (injection eo25 with f1_ f2_ f3_; have f4_ := f1_.symm; have f5_ := f3_.symm; clear f1_ f2_ f3_; subst f4_; subst f5_))
  refine hK.out _ _ ⟨(blk_cell BK948.out 0).trans rfl, (blk_cell BK948.out 1).trans rfl, (blk_cell BK948.out 2).trans rfl⟩ (fun hHeld => ?_)
  clear hK K
  refine norm_ (a' := ?_) ?_ ?_
  rotate_left
  ·show Act.put _ (some 38) _ = _
   simp only [Act.put, ls, lz, ln, i64_w, i32_w]
   rfl
  refine one_ (i := 17) (N := some 39) #[true, true, true, true, true, true, true, true, true, true, true, true, true, true, true, true, true, true, false, false] rfl rfl (one_of HT_.out (by kernel_rfl)) (by decide) (fun K hK => ?_)
  refine goes_ Try.func75 (by kernel_rfl) rfl #[.int .i64 a0_0, .slice Ao24 t959.length co24, .slice Ao25 t962.length co25] (by rfl) rfl rfl (by (try simp only [la, lb, lc]); first | done | rfl | (simp only [ld, le]; rfl)) ?_
  with_reducible refine (spec_l01Times.calls k a0_0 _ _ t959 _ _ t962 t965 _ ?side1 ?side2 ?side3 ?side4 A10.out).mono ?_
  (case side1 => exact uC ((Kd.R_reads' HO961.out).2.2))
  (case side2 => exact (Kd.R_reads' HO961.out).2.1)
  (case side3 => exact uC ((Kd.R_reads' HO964.out).2.2))
  (case side4 => exact (Kd.R_reads' HO964.out).2.1)
  rintro e w26 ⟨v966, rfl, ho0, hb⟩
  refine ⟨_, rfl, ?_⟩
  have n0_ := zA (Kd.R_elder' (uR HO952.out) (Kd.R_base ho0) hb)
  have n1_ := zA (Kd.R_elder' (uR HO955.out) (Kd.R_base ho0) hb)
  have n2_ := zA (Kd.R_elder' (uR HO958.out) (Kd.R_base ho0) hb)
  have n3_ := zA (Kd.R_elder' (uR HO961.out) (Kd.R_base ho0) hb)
  have n4_ := zA (Kd.R_elder' (uR HO964.out) (Kd.R_base ho0) hb)
  have n5_ := zA (Kd.R_lower (Kd.R_new' (Kd.R_new' (Kd.R_new' (Kd.R_new' (Kd.R_new' ho0 (Kd.R_lt (uR HO952.out))) (Kd.R_lt (uR HO955.out))) (Kd.R_lt (uR HO958.out))) (Kd.R_lt (uR HO961.out))) (Kd.R_lt (uR HO964.out))) (below_size (uH HB.out)))
  have n6_ := xB BK948 hb
  have n7_ := xH HB hb
  clear HO952 HO955 HO958 HO961 HO964 BK948 HB
  have HO952 := n0_; have HO955 := n1_; have HO958 := n2_; have HO961 := n3_; have HO964 := n4_; have HO967 := n5_; have BK948 := n6_; have HB := n7_
  clear n0_ n1_ n2_ n3_ n4_ n5_ n6_ n7_
  (try clear hb); (try clear hb2); (try clear hk); (try clear hi); (try clear ho0)
  refine hK.out _ _ ⟨(blk_cell BK948.out 0).trans rfl, (blk_cell BK948.out 1).trans rfl, (blk_cell BK948.out 2).trans rfl⟩ (fun hHeld => ?_)
  clear hK K
  refine norm_ (a' := ?_) ?_ ?_
  rotate_left
  ·show Act.put _ (some 39) _ = _
   simp only [Act.put, ls, lz, ln, i64_w, i32_w]
   rfl
  refine pure_ (i := 18) (N := some 8) (v := ?_) (a' := ?_) #[true, true, true, true, true, true, true, true, true, true, true, true, true, true, true, true, true, true, true, false] rfl rfl (any_of HT_.out (by kernel_rfl)) (fun _ _ _ h => h) (Or.inl ⟨by rfl, ?_⟩) ?_ ?_
  rotate_left
  ·intro w'
   go_simp
   with_reducible rfl
  rotate_left
  ·simp only [Act.put, ls, lz, ln, i64_w, i32_w]
   rfl
  refine pure_ (i := 19) (N := some 9) (v := ?_) (a' := ?_) #[true, true, true, true, true, true, true, true, true, true, true, true, true, true, true, true, true, true, true, true] rfl rfl (any_of HT_.out (by kernel_rfl)) (fun _ _ _ h => h) (Or.inl ⟨by rfl, ?_⟩) ?_ ?_
  rotate_left
  ·intro w'
   go_simp
   with_reducible rfl
  rotate_left
  ·simp only [Act.put, ls, lz, ln, i64_w, i32_w]
   rfl
  refine done_ (done_of HT_.out (by kernel_rfl)) ?_
  obtain ⟨Ao27, co27, eo27⟩ := Kd.R_slice HO958.out
  subst eo27
  obtain ⟨Ao28, co28, eo28⟩ := Kd.R_slice HO967.out
  subst eo28
  try go_wp2_with (first | ((with_reducible refine gate_callee (f := 76) rfl ?_); refine goesL_ (some 45) rfl rfl Try.func76 (by kernel_rfl) rfl #[.int .i64 a0_0, .slice Ao27 t956.length co27, .slice Ao28 t965.length co28, .int .i64 (wrap64 (a0_0 - 1))] rfl (by (try simp only [la, lb, lc]); first | done | rfl | (simp only [ld, le]; rfl)) ?_; (with_reducible refine (spec_l01Add.calls k a0_0 _ _ t956 _ _ t965 (wrap64 (a0_0 - 1)) t968 _ ?side1 ?side2 ?side3 ?side4 A11.out).mono ?_); (case side1 => exact uC ((Kd.R_reads' HO958.out).2.2)); (case side2 => exact (Kd.R_reads' HO958.out).2.1); (case side3 => exact uC ((Kd.R_reads' HO967.out).2.2)); (case side4 => exact (Kd.R_reads' HO967.out).2.1); rintro e w29 ⟨v969, rfl, ho0, hb⟩; refine ⟨_, rfl, ?_⟩; have n0_ := zA (Kd.R_elder' (uR HO952.out) (Kd.R_base ho0) hb); have n1_ := zA (Kd.R_elder' (uR HO955.out) (Kd.R_base ho0) hb); have n2_ := zA (Kd.R_elder' (uR HO958.out) (Kd.R_base ho0) hb); have n3_ := zA (Kd.R_elder' (uR HO961.out) (Kd.R_base ho0) hb); have n4_ := zA (Kd.R_elder' (uR HO964.out) (Kd.R_base ho0) hb); have n5_ := zA (Kd.R_elder' (uR HO967.out) (Kd.R_base ho0) hb); have n6_ := zA (Kd.R_lower (Kd.R_new' (Kd.R_new' (Kd.R_new' (Kd.R_new' (Kd.R_new' (Kd.R_new' ho0 (Kd.R_lt (uR HO952.out))) (Kd.R_lt (uR HO955.out))) (Kd.R_lt (uR HO958.out))) (Kd.R_lt (uR HO961.out))) (Kd.R_lt (uR HO964.out))) (Kd.R_lt (uR HO967.out))) (below_size (uH HB.out))); have n7_ := xB BK948 hb; have n8_ := xH HB hb; clear HO952 HO955 HO958 HO961 HO964 HO967 BK948 HB; have HO952 := n0_; have HO955 := n1_; have HO958 := n2_; have HO961 := n3_; have HO964 := n4_; have HO967 := n5_; have HO970 := n6_; have BK948 := n7_; have HB := n8_; clear n0_ n1_ n2_ n3_ n4_ n5_ n6_ n7_ n8_; (try clear hb); (try clear hb2); (try clear hk); (try clear hi); (try clear ho0)))
  go_ret2
  exact ⟨_, by first | rfl | (simp [errW_none, errW_some] <;> rfl) | (simp [*, errW_none, errW_some] <;> rfl), uR (Kd.R_mono HO970.out (fun _ hk => trivial)), uH HB.out⟩
 ·rw [if_neg c4] at H
  have c4b0 : (t949 == 0) = false := beq_eq_false_iff_ne.mpr c4
  have c4b1 : (t949 != 0) = true := bne_iff_ne.mpr c4
  simp only [Option.some.injEq, Prod.mk.injEq] at H
  obtain ⟨rfl, rfl⟩ := H
  go_enter Try.func42, Try.ntmps42
  go_wp2_with (first | ((with_reducible refine gate_dst (N := 2) rfl ?_); refine box_event ?hg (N := 2) ?hd (cs := #[.int .i64 a0_0, .slice A0_1 l0_1.length c0_1, .slice A0_2 l0_2.length c0_2]) (t := 26) ?hr ?_; (case hd => rfl); (case hg => rfl); (case hr => first | (go_simp; done) | (go_simp; rfl)); intro gb948 hg w30 hbox hb; have n0_ := xH HB hb; have n1_ := zA (hbox); have n2_ := zA ((by rw [hg]; exact (below_size (uH HB.out)) : w.heap.size ≤ gb948)); have n3_ := zA ((by rw [hg]; exact (below_size (uH HB.out)) : w.heap.size ≤ gb948)); clear HB; have HB := n0_; have BK948 := n1_; have GW948 := n2_; have GE948 := n3_; have := geI GE948; clear n0_ n1_ n2_ n3_ hb hbox hg; have hcz31_0 : w30.cell? ⟨gb948, 0, none⟩ = some (.int .i64 a0_0) := (blk_cell BK948.out 0).trans rfl; have hcz31_1 : w30.cell? ⟨gb948, 1, none⟩ = some (.slice A0_1 l0_1.length c0_1) := (blk_cell BK948.out 1).trans rfl; have hcz31_2 : w30.cell? ⟨gb948, 2, none⟩ = some (.slice A0_2 l0_2.length c0_2) := (blk_cell BK948.out 2).trans rfl; have hfz31_0 := blk_frozen BK948.out 0; have hfz31_1 := blk_frozen BK948.out 1; have hfz31_2 := blk_frozen BK948.out 2) | ((with_reducible refine gate_callee (f := 51) rfl ?_); refine goesL_ (some 16) rfl rfl Try.func51 (by kernel_rfl) rfl #[.agg #[.int .i64 a0_0, .slice A0_1 l0_1.length c0_1, .slice A0_2 l0_2.length c0_2], .int .i64 a1, .int .i64 0, .int .i64 (wrap64 ((l0_1.length : Int) - 1))] rfl (by (try simp only [la, lb, lc]); first | done | rfl | (simp only [ld, le]; rfl)) ?_; (with_reducible refine (spec_l03Code.calls k a0_0 _ _ l0_1 _ _ l0_2 a1 0 (wrap64 ((l0_1.length : Int) - 1)) t949 _ ?side1 ?side2 ?side3 ?side4 A3.out).mono ?_); (case side1 => exact uC ((Kd.C_below HR0_1.out HB.out))); (case side2 => exact HC0_1.out); (case side3 => exact uC ((Kd.C_below HR0_2.out HB.out))); (case side4 => exact HC0_2.out); rintro e w32 ⟨rfl, hb⟩; refine ⟨_, rfl, ?_⟩; have n0_ := xB BK948 hb; have n1_ := xH HB hb; clear BK948 HB; have BK948 := n0_; have HB := n1_; clear n0_ n1_; (try clear hb); (try clear hb2); (try clear hk); (try clear hi)))
  go_ret2
  exact ⟨_, by first | rfl | (simp [errW_none, errW_some] <;> rfl) | (simp [*, errW_none, errW_some] <;> rfl), by first | exact Kd.R_nil _ _ _ _ _ | exact Kd.N_nil _ _ _ _ _ | exact Kd.V_nil _ _ _ _ _ | exact Kd.Q_nil _ _ _ _ _ | exact Kd.S_nil _ _ _ _ _, uH HB.out⟩

end Go.Proofs.Ytgneldhhlfjjaaa.Pr
/- Data of recurrences: which lists are such data, for the program and for the reference; their codes; no condition. -/
namespace Go.Proofs.Ytgneldhhlfjjaaa.Pr
open Go.RowKit Go.Proofs.YtgneldhhlfjjaaaW.PrintWords Go.Proofs.YtgneldhhlfjjaaaW.PrintLast Go.Proofs.YtgneldhhlfjjaaaW.PrintMore

/-- Numbers modulo p other than 0. -/
def Um (p : Int) (l : List Int) : Prop := ∀ x ∈ l, 1 ≤ x ∧ x < p
instance (p : Int) (l : List Int) : Decidable (Um p l) := by unfold Um; infer_instance
theorem Um.nil (p : Int) : Um p [] := fun x h => by cases h
theorem Um_cons (p x : Int) (l : List Int) : Um p (x :: l) ↔ (1 ≤ x ∧ x < p) ∧ Um p l := by
  constructor
  · exact fun h => ⟨h x (List.mem_cons_self ..), fun y hy => h y (List.mem_cons_of_mem _ hy)⟩
  · intro h y hy
    rcases List.mem_cons.1 hy with rfl | hy
    · exact h.1
    · exact h.2 y hy
theorem Um.nm {p : Int} {l : List Int} (h : Um p l) : Nm p l := fun x hx => by have := h x hx; omega
theorem Um_drop {p : Int} {l : List Int} {i : Nat} (h : i < l.length) : Um p (l.drop i) ↔ (1 ≤ l.getD i 0 ∧ l.getD i 0 < p) ∧ Um p (l.drop (i + 1)) := by
  rw [drop_cons l 0 i h, Um_cons]
theorem isUnit_eq {p : Int} (hp : -9223372036854775807 ≤ p) (hp' : p ≤ 9223372036854775807) (x : Int) : impl_field_isUnit.f p x = some (decide (1 ≤ x ∧ x < p)) := by
  unfold impl_field_isUnit.f
  rw [within_eq, wrap_id (by omega) (by omega)]
  simp only [Option.bind_some]
  congr 1
  apply decide_eq_decide.2
  omega
theorem allO_unit {p : Int} (hp : -9223372036854775807 ≤ p) (hp' : p ≤ 9223372036854775807) (l : List Int) : allO (fun z_ => impl_field_isUnit.f p z_) l = some (decide (Um p l)) := by
  induction l with
  | nil => simp only [allO]; rw [decide_eq_true (Um.nil p)]
  | cons x l ih =>
    simp only [isUnit_eq hp hp'] at ih
    simp only [allO, isUnit_eq hp hp', Option.bind_some]
    by_cases h : 1 ≤ x ∧ x < p
    · rw [if_pos (decide_eq_true h), ih]
      congr 1
      apply decide_eq_decide.2
      rw [Um_cons]
      exact ⟨fun g => ⟨h, g⟩, fun g => g.2⟩
    · rw [if_neg (by simp [h])]
      congr 1
      exact (decide_eq_false (fun g => h ((Um_cons p x l).1 g).1)).symm
theorem areAll_unit {p : Int} (hp : -9223372036854775807 ≤ p) (hp' : p ≤ 9223372036854775807) (l : List Int) (hl : l.length < 4611686018427387904) : impl_areAll_int64.f l (fun z_ => impl_field_isUnit.f p z_) = some (decide (Um p l)) := by
  unfold impl_areAll_int64.f
  rw [if_pos hl, allO_unit hp hp']

def jacB (p : Int) (a b : List Int) : Bool := primeB p && decide (((1 ≤ a.length ∧ a.length ≤ 12) ∧ b.length = a.length) ∧ (Nm p a ∧ Um p b))
theorem jacB.prime {p : Int} {a b : List Int} (h : jacB p a b = true) : primeB p = true := by simp only [jacB, Bool.and_eq_true] at h; exact h.1
theorem jacB.pm {p : Int} {a b : List Int} (h : jacB p a b = true) : Pm p := primeB.pm (jacB.prime h)
theorem jacB.all {p : Int} {a b : List Int} (h : jacB p a b = true) : ((1 ≤ a.length ∧ a.length ≤ 12) ∧ b.length = a.length) ∧ (Nm p a ∧ Um p b) := by
  simp only [jacB, Bool.and_eq_true, decide_eq_true_eq] at h; exact h.2

theorem specJac_l0 {p : Int} (hp : Pm p) (a b : List Int) (hl : Sm a.length) (hab : b.length = a.length) (d : Nat) : ∀ i, i + d = a.length →
    Ev (fun k => spec_l03Is.l0 k (i : Int) p a b) (decide (Nm p (a.drop i) ∧ Um p (b.drop i))) := by
  induction d with
  | zero =>
    intro i hi
    refine Ev.step (fun k => by rw [spec_l03Is.l0]) ?_
    refine Ev.neg (by omega) (Ev.some' ?_)
    rw [List.drop_eq_nil_of_le (by omega), List.drop_eq_nil_of_le (by omega)]
    exact (decide_eq_true ⟨Nm.nil p, Um.nil p⟩).symm
  | succ d ih =>
    intro i hi
    unfold Sm at hl
    have h2 := hp.two
    have ht := hp.top
    refine Ev.step (fun k => by rw [spec_l03Is.l0]) ?_
    refine Ev.pos (by omega) (Ev.pos (by omega) (Ev.bindE (in_eq _ _ _) ?_))
    rw [rd_nat, rd_nat, wrap_id (x := p - 1) (by omega) (by omega)]
    by_cases h : 0 ≤ a.getD i 0 ∧ a.getD i 0 ≤ p - 1
    · refine Ev.pos (decide_eq_true h) (Ev.pos (by omega) (Ev.bindE (in_eq _ _ _) ?_))
      by_cases g : 1 ≤ b.getD i 0 ∧ b.getD i 0 ≤ p - 1
      · refine Ev.pos (decide_eq_true g) ?_
        rw [wsucc (i := i) (n := a.length) (by omega) (by omega)]
        refine Ev.cast (ih (i + 1) (by omega)) ?_
        apply decide_eq_decide.2
        rw [Nm_drop (l := a) (i := i) (by omega), Um_drop (l := b) (i := i) (by omega)]
        exact ⟨fun q => ⟨⟨by omega, q.1⟩, ⟨by omega, q.2⟩⟩, fun q => ⟨q.1.2, q.2.2⟩⟩
      · refine Ev.neg (by simp only [decide_eq_true_eq]; exact g) (Ev.some' ?_)
        exact (decide_eq_false (fun q => g (by have := ((Um_drop (p := p) (l := b) (i := i) (by omega)).1 q.2).1; omega))).symm
    · refine Ev.neg (by simp only [decide_eq_true_eq]; exact h) (Ev.some' ?_)
      exact (decide_eq_false (fun q => h (by have := ((Nm_drop (p := p) (l := a) (i := i) (by omega)).1 q.1).1; omega))).symm
theorem specJac_ev (p : Int) (a b : List Int) (ha : Sm a.length) (_hb : Sm b.length) : Ev (fun k => spec_l03Is.f k p a b) (jacB p a b) := by
  unfold spec_l03Is.f jacB
  refine Ev.bind (specPrime_ev p) ?_
  by_cases hp : primeB p = true
  · rw [hp, Bool.true_and]
    refine Ev.pos rfl ?_
    by_cases h1 : 1 ≤ a.length
    · refine Ev.neg (by omega) ?_
      by_cases h2 : a.length ≤ 12
      · refine Ev.neg (by omega) ?_
        by_cases h3 : b.length = a.length
        · rw [show (((b.length : Int) != (a.length : Int)) : Bool) = false from by simp [h3]]
          refine Ev.step (fun k => by rw [spec_l03Is.j0]) ?_
          refine Ev.neg (by decide) ?_
          refine Ev.cast (specJac_l0 (primeB.pm hp) a b ha h3 a.length 0 (by omega)) ?_
          apply decide_eq_decide.2
          exact ⟨fun g => ⟨⟨⟨h1, h2⟩, h3⟩, g⟩, fun g => g.2⟩
        · rw [show (((b.length : Int) != (a.length : Int)) : Bool) = true from by simp; omega]
          refine Ev.step (fun k => by rw [spec_l03Is.j0]) ?_
          refine Ev.pos rfl (Ev.some' (decide_eq_false (fun g => h3 g.1.2)).symm)
      · refine Ev.pos (by omega) ?_
        refine Ev.step (fun k => by rw [spec_l03Is.j0]) ?_
        refine Ev.pos rfl (Ev.some' (decide_eq_false (fun g => h2 g.1.1.2)).symm)
    · refine Ev.pos (by omega) ?_
      refine Ev.step (fun k => by rw [spec_l03Is.j0]) ?_
      refine Ev.pos rfl (Ev.some' (decide_eq_false (fun g => h1 g.1.1.1)).symm)
  · rw [Bool.eq_false_iff.2 hp, Bool.false_and]
    refine Ev.neg (by simp) ?_
    refine Ev.step (fun k => by rw [spec_l03Is.j0]) ?_
    exact Ev.pos rfl (Ev.now _)
theorem size_eq (p : Int) (a b : List Int) : impl_Jacobi_size.f p a b = some (a.length : Int) := by
  unfold impl_Jacobi_size.f impl_length_int64.f; rfl
theorem implJac_ev (p : Int) (a b : List Int) (ha : Sm a.length) (hb : Sm b.length) : Ev (fun k => impl_IsJacobi.f k p a b) (jacB p a b) := by
  unfold impl_IsJacobi.f jacB
  refine Ev.bind (implPrime_ev p) ?_
  have ha' := ha
  have hb' := hb
  unfold Sm at ha' hb'
  by_cases hp : primeB p = true
  · have h2 := (primeB.pm hp).two
    have ht := (primeB.pm hp).top
    rw [hp, Bool.true_and]
    refine Ev.pos rfl (Ev.bindE (size_eq p a b) (Ev.bindE (within_eq _ _ _) ?_))
    by_cases h1 : 1 ≤ a.length ∧ a.length ≤ 12
    · refine Ev.pos (decide_eq_true (by omega)) ?_
      by_cases h3 : b.length = a.length
      · refine Ev.pos (by omega) (Ev.bindE (a := p) rfl (Ev.bindE (areAll_has p a (by omega)) ?_))
        by_cases h4 : Nm p a
        · refine Ev.pos (decide_eq_true h4) (Ev.bindE (a := p) rfl (Ev.bindE (areAll_unit (by omega) (by omega) b (by omega)) (Ev.some' ?_)))
          apply decide_eq_decide.2
          exact ⟨fun g => ⟨⟨h1, h3⟩, h4, g⟩, fun g => g.2.2⟩
        · refine Ev.neg (by simp only [decide_eq_true_eq]; exact h4) (Ev.some' ?_)
          exact (decide_eq_false (fun g => h4 g.2.1)).symm
      · exact Ev.neg (by omega) (Ev.some' (decide_eq_false (fun g => h3 g.1.2)).symm)
    · refine Ev.neg (by simp only [decide_eq_true_eq]; omega) (Ev.some' ?_)
      exact (decide_eq_false (fun g => h1 g.1.1)).symm
  · rw [Bool.eq_false_iff.2 hp, Bool.false_and]
    exact Ev.neg (by simp) (Ev.now _)
/-- The code of data and a range. -/
def jacC (p : Int) (a b : List Int) (r : Bool) : Int := if jacB p a b = true then (if r = true then 0 else 2) else 1
theorem implJacCode_ev (p : Int) (a b : List Int) (r : Bool) (ha : Sm a.length) (hb : Sm b.length) : Ev (fun k => impl_jacobiCode.f k p a b r) (jacC p a b r) := by
  unfold impl_jacobiCode.f jacC
  refine Ev.bind (implJac_ev p a b ha hb) ?_
  by_cases h : jacB p a b = true
  · rw [if_pos h, if_pos h]
    by_cases g : r = true
    · rw [if_pos g, if_pos g]; exact Ev.now _
    · rw [if_neg g, if_neg g]; exact Ev.now _
  · rw [if_neg h, if_neg h]; exact Ev.now _
theorem specJacCode_ev (p : Int) (a b : List Int) (k lo hi : Int) (ha : Sm a.length) (hb : Sm b.length) : Ev (fun n => spec_l03Code.f n p a b k lo hi) (jacC p a b (decide (lo ≤ k ∧ k ≤ hi))) := by
  unfold spec_l03Code.f jacC
  refine Ev.bind (specJac_ev p a b ha hb) ?_
  by_cases h : jacB p a b = true
  · rw [if_pos h, if_pos h]
    refine Ev.bindE (in_eq _ _ _) ?_
    by_cases g : decide (lo ≤ k ∧ k ≤ hi) = true
    · rw [if_pos g, if_pos g]; exact Ev.now _
    · rw [if_neg g, if_neg g]; exact Ev.now _
  · rw [if_neg h, if_neg h]; exact Ev.now _
theorem jacC0 {p : Int} {a b : List Int} {r : Bool} (h : jacC p a b r = 0) : jacB p a b = true ∧ r = true := by
  unfold jacC at h
  split at h
  · split at h
    · exact ⟨‹_›, ‹_›⟩
    · omega
  · omega
end Go.Proofs.Ytgneldhhlfjjaaa.Pr
/- The polynomials of data of recurrences, and the associated ones: what the program and the reference come to; no condition. -/
namespace Go.Proofs.Ytgneldhhlfjjaaa.Pr
open Go.RowKit Go.Proofs.YtgneldhhlfjjaaaW.PrintWords Go.Proofs.YtgneldhhlfjjaaaW.PrintLast Go.Proofs.YtgneldhhlfjjaaaW.PrintMore

/-- (x - a) f - b g. -/
def pnext (p a b : Int) (f g : List Int) : List Int := padd p (pmul p [(-a) % p, 1] f) g ((-b) % p)
theorem pnext_nm {p : Int} (hp : Pm p) (a b : Int) (f g : List Int) : Nm p (pnext p a b f g) := padd_nm hp.pos (pmul_nm hp.pos _ _) _
theorem pnext_len (p a b : Int) (f g : List Int) : (pnext p a b f g).length ≤ max (f.length + 1) g.length := by
  have h1 := padd_len p (pmul p [(-a) % p, 1] f) g ((-b) % p)
  have h2 := pmul_len p [(-a) % p, 1] f
  simp only [List.length_cons, List.length_nil] at h2
  unfold pnext
  omega
theorem two_nm {p : Int} (hp : Pm p) (a : Int) : Nm p [(-a) % p, 1] := by
  have := hp.two
  exact Nm.cons (emodB hp.pos _).1 (emodB hp.pos _).2 (Nm.cons (by omega) (by omega) (Nm.nil p))
theorem neg_wrap {p a : Int} (hp : Pm p) (h : 0 ≤ a ∧ a < p) : wrap64 (-a) = -a := by
  have := hp.top
  exact wrap_id (by omega) (by omega)
theorem specStep_ev {p a b : Int} (hp : Pm p) (ha : 0 ≤ a ∧ a < p) (hb : 0 ≤ b ∧ b < p) (f g : List Int) (hf : Nm p f) (hg : Nm p g) (sf : f.length ≤ 1000) (sg : g.length ≤ 1000) :
    Ev (fun n => spec_l03Step.f n p f g a b) (pnext p a b f g) := by
  unfold spec_l03Step.f
  have h2 := pmul_len p [(-a) % p, 1] f
  simp only [List.length_cons, List.length_nil] at h2
  rw [neg_wrap hp ha, neg_wrap hp hb]
  refine Ev.bindE (smod_eq hp _) (Ev.bind (specMul_ev hp _ f (two_nm hp a) hf (by simp [Sm]) (by unfold Sm; omega) (by simp only [List.length_cons, List.length_nil]; unfold Sm; omega)) (Ev.bindE (smod_eq hp _) (Ev.bind ?_ (Ev.now _))))
  exact specAdd_ev hp (emodB hp.pos _) _ g (pmul_nm hp.pos _ _) hg (by unfold Sm; omega) (by unfold Sm; omega)
theorem implNext_ev {p a b : Int} (hp : Pm p) (ha : 0 ≤ a ∧ a < p) (hb : 0 ≤ b ∧ b < p) (f g : List Int) (hf : Nm p f) (hg : Nm p g) (sf : f.length ≤ 1000) (sg : g.length ≤ 1000) :
    Ev (fun n => impl_field_next.f n p a b f g) (pnext p a b f g) := by
  unfold impl_field_next.f
  have h2 := pmul_len p [(-a) % p, 1] f
  simp only [List.length_cons, List.length_nil] at h2
  rw [neg_wrap hp ha, neg_wrap hp hb]
  refine Ev.bindE (mod_eq hp _) (Ev.bind (implMul_ev hp _ f (two_nm hp a) hf (by simp [Sm]) (by unfold Sm; omega) (by simp only [List.length_cons, List.length_nil]; unfold Sm; omega)) (Ev.bindE (mod_eq hp _) (Ev.bind ?_ (Ev.now _))))
  exact implAdd_ev hp (emodB hp.pos _) _ g (pmul_nm hp.pos _ _) hg (by unfold Sm; omega) (by unfold Sm; omega)

/-- P(k - 1) and P(k). -/
def pPair (p : Int) (a b : List Int) : Nat → List Int × List Int
  | 0 => ([], [1])
  | k + 1 => ((pPair p a b k).2, pnext p (a.getD k 0) (b.getD k 0) (pPair p a b k).2 (pPair p a b k).1)
/-- Q(k) and Q(k + 1). -/
def qPair (p : Int) (a b : List Int) : Nat → List Int × List Int
  | 0 => ([], [1])
  | k + 1 => ((qPair p a b k).2, pnext p (a.getD (k + 1) 0) (b.getD (k + 1) 0) (qPair p a b k).2 (qPair p a b k).1)
theorem one_nm {p : Int} (hp : Pm p) : Nm p [1] := by
  have := hp.two
  exact Nm.cons (by omega) (by omega) (Nm.nil p)
theorem pPair_ok {p : Int} (hp : Pm p) (a b : List Int) (k : Nat) : (Nm p (pPair p a b k).1 ∧ Nm p (pPair p a b k).2) ∧ ((pPair p a b k).1.length ≤ k + 1 ∧ (pPair p a b k).2.length ≤ k + 1) := by
  induction k with
  | zero => exact ⟨⟨Nm.nil p, one_nm hp⟩, by simp [pPair], by simp [pPair]⟩
  | succ k ih =>
    refine ⟨⟨ih.1.2, pnext_nm hp _ _ _ _⟩, by have := ih.2.2; simp only [pPair]; omega, ?_⟩
    have := pnext_len p (a.getD k 0) (b.getD k 0) (pPair p a b k).2 (pPair p a b k).1
    have h := ih.2
    simp only [pPair]
    omega
theorem qPair_ok {p : Int} (hp : Pm p) (a b : List Int) (k : Nat) : (Nm p (qPair p a b k).1 ∧ Nm p (qPair p a b k).2) ∧ ((qPair p a b k).1.length ≤ k + 1 ∧ (qPair p a b k).2.length ≤ k + 1) := by
  induction k with
  | zero => exact ⟨⟨Nm.nil p, one_nm hp⟩, by simp [qPair], by simp [qPair]⟩
  | succ k ih =>
    refine ⟨⟨ih.1.2, pnext_nm hp _ _ _ _⟩, by have := ih.2.2; simp only [qPair]; omega, ?_⟩
    have := pnext_len p (a.getD (k + 1) 0) (b.getD (k + 1) 0) (qPair p a b k).2 (qPair p a b k).1
    have h := ih.2
    simp only [qPair]
    omega

theorem specPoly03_l0 {p : Int} (hp : Pm p) (a b : List Int) (ha : Nm p a) (hb : Nm p b) (n : Nat) (hn : n ≤ a.length) (hl : a.length ≤ 12) (hab : b.length = a.length) (d : Nat) : ∀ i, i + d = n →
    Ev (fun m => spec_l03Poly.l0 m (n : Int) (pPair p a b i).1 (pPair p a b i).2 (i : Int) p a b) (pPair p a b n).2 := by
  induction d with
  | zero =>
    intro i hi
    refine Ev.step (fun m => by rw [spec_l03Poly.l0]) ?_
    refine Ev.neg (by omega) (Ev.some' ?_)
    rw [show i = n from by omega]
  | succ d ih =>
    intro i hi
    have h := pPair_ok hp a b i
    refine Ev.step (fun m => by rw [spec_l03Poly.l0]) ?_
    refine Ev.pos (by omega) (Ev.pos (by omega) (Ev.pos (by omega) (Ev.pos (by omega) ?_)))
    rw [rd_nat, rd_nat]
    refine Ev.bind (specStep_ev hp (ha.get (i := i) (by omega)) (hb.get (i := i) (by omega)) _ _ h.1.2 h.1.1 (by omega) (by omega)) ?_
    rw [wsucc (i := i) (n := n) (by omega) (by omega)]
    exact ih (i + 1) (by omega)
theorem specPoly03_ev {p : Int} (hp : Pm p) (a b : List Int) (ha : Nm p a) (hb : Nm p b) (n : Nat) (hn : n ≤ a.length) (hl : a.length ≤ 12) (hab : b.length = a.length) :
    Ev (fun m => spec_l03Poly.f m p a b (n : Int)) (pPair p a b n).2 := by
  unfold spec_l03Poly.f
  exact specPoly03_l0 hp a b ha hb n hn hl hab n 0 (by omega)
theorem specSecond_l0 {p : Int} (hp : Pm p) (a b : List Int) (ha : Nm p a) (hb : Nm p b) (n : Nat) (hn : n + 1 ≤ a.length) (hl : a.length ≤ 12) (hab : b.length = a.length) (d : Nat) : ∀ i, i + d = n →
    Ev (fun m => spec_l03Second.l0 m ((n + 1 : Nat) : Int) (qPair p a b i).1 (qPair p a b i).2 ((i + 1 : Nat) : Int) p a b) (qPair p a b n).2 := by
  induction d with
  | zero =>
    intro i hi
    refine Ev.step (fun m => by rw [spec_l03Second.l0]) ?_
    refine Ev.neg (by omega) (Ev.some' ?_)
    rw [show i = n from by omega]
  | succ d ih =>
    intro i hi
    have h := qPair_ok hp a b i
    refine Ev.step (fun m => by rw [spec_l03Second.l0]) ?_
    refine Ev.pos (by omega) (Ev.pos (by omega) (Ev.pos (by omega) (Ev.pos (by omega) ?_)))
    rw [rd_nat, rd_nat]
    refine Ev.bind (specStep_ev hp (ha.get (i := i + 1) (by omega)) (hb.get (i := i + 1) (by omega)) _ _ h.1.2 h.1.1 (by omega) (by omega)) ?_
    rw [wsucc (i := i + 1) (n := n + 1) (by omega) (by omega)]
    exact ih (i + 1) (by omega)
/-- Q(k). -/
theorem specSecond_ev {p : Int} (hp : Pm p) (a b : List Int) (ha : Nm p a) (hb : Nm p b) (n : Nat) (hn : n ≤ a.length) (hl : a.length ≤ 12) (hab : b.length = a.length) :
    Ev (fun m => spec_l03Second.f m p a b (n : Int)) (qPair p a b n).1 := by
  unfold spec_l03Second.f
  cases n with
  | zero => exact Ev.pos (by simp) (Ev.now _)
  | succ n =>
    refine Ev.neg (by omega) ?_
    exact specSecond_l0 hp a b ha hb n hn hl hab n 0 (by omega)

theorem getD_map_range {α : Type} (g : Nat → α) (d : α) {n i : Nat} (h : i < n) : ((List.range n).map g).getD i d = g i := by
  rw [List.getD_eq_getElem?_getD, List.getElem?_map, List.getElem?_range h]; rfl
theorem map_range_succ {α : Type} (g : Nat → α) (n : Nat) : (List.range (n + 1)).map g = (List.range n).map g ++ [g n] := by
  rw [List.range_succ, List.map_append]; rfl
/-- All polynomials P(0) to P(n - 1). -/
def pAll (p : Int) (a b : List Int) (n : Nat) : List (List Int) := (List.range n).map fun k => (pPair p a b k).2
def qAll (p : Int) (a b : List Int) (n : Nat) : List (List Int) := (List.range n).map fun k => (qPair p a b k).1
theorem implPolys_l0 {p : Int} (hp : Pm p) (a b : List Int) (ha : Nm p a) (hb : Nm p b) (hl : a.length ≤ 12) (hab : b.length = a.length) (d : Nat) : ∀ i, i + d = a.length →
    Ev (fun m => impl_Jacobi_polys.l0 m (pAll p a b (i + 1)) (pPair p a b i).1 a (a.length : Int) (i : Int) p a b) (pAll p a b (a.length + 1)) := by
  induction d with
  | zero =>
    intro i hi
    refine Ev.step (fun m => by rw [impl_Jacobi_polys.l0]) ?_
    refine Ev.neg (by omega) (Ev.some' ?_)
    rw [show i = a.length from by omega]
  | succ d ih =>
    intro i hi
    have h := pPair_ok hp a b i
    have hn : (pAll p a b (i + 1)).length = i + 1 := by simp [pAll]
    have hr : rd_L1 (pAll p a b (i + 1)) (i : Int) = (pPair p a b i).2 := by
      rw [rdL_nat]; exact getD_map_range _ _ (by omega)
    refine Ev.step (fun m => by rw [impl_Jacobi_polys.l0]) ?_
    rw [hr]
    refine Ev.pos (by omega) (Ev.pos (by omega) (Ev.pos (by omega) (Ev.pos (by omega) (Ev.bindE (a := p) rfl (Ev.pos (by omega) ?_)))))
    rw [rd_nat, rd_nat]
    refine Ev.bind (implNext_ev hp (ha.get (i := i) (by omega)) (hb.get (i := i) (by omega)) _ _ h.1.2 h.1.1 (by omega) (by omega)) (Ev.pos (by omega) ?_)
    rw [wsucc (i := i) (n := a.length) (by omega) (by omega)]
    have := ih (i + 1) (by omega)
    rw [show pAll p a b (i + 1 + 1) = pAll p a b (i + 1) ++ [(pPair p a b (i + 1)).2] from map_range_succ _ _] at this
    exact this
theorem implPolys_ev {p : Int} (hp : Pm p) (a b : List Int) (ha : Nm p a) (hb : Nm p b) (hl : a.length ≤ 12) (hab : b.length = a.length) :
    Ev (fun m => impl_Jacobi_polys.f m p a b) (pAll p a b (a.length + 1)) := by
  unfold impl_Jacobi_polys.f
  exact implPolys_l0 hp a b ha hb hl hab a.length 0 (by omega)
theorem implAssoc_l0 {p : Int} (hp : Pm p) (a b : List Int) (ha : Nm p a) (hb : Nm p b) (hl : a.length ≤ 12) (hab : b.length = a.length) (d : Nat) : ∀ i, i + 1 + d = a.length →
    Ev (fun m => impl_Jacobi_associated.l0 m (qAll p a b (i + 2)) ((i + 1 : Nat) : Int) p a b) (qAll p a b (a.length + 1)) := by
  induction d with
  | zero =>
    intro i hi
    refine Ev.step (fun m => by rw [impl_Jacobi_associated.l0]) ?_
    refine Ev.neg (by omega) (Ev.some' ?_)
    rw [show i + 2 = a.length + 1 from by omega]
  | succ d ih =>
    intro i hi
    have h := qPair_ok hp a b i
    have hn : (qAll p a b (i + 2)).length = i + 2 := by simp [qAll]
    have hw : wrap64 (((i + 1 : Nat) : Int) - 1) = (i : Int) := by rw [wrap_id (by omega) (by omega)]; omega
    have hr : rd_L1 (qAll p a b (i + 2)) ((i + 1 : Nat) : Int) = (qPair p a b i).2 := by
      rw [rdL_nat]; exact getD_map_range _ _ (by omega)
    have hr' : rd_L1 (qAll p a b (i + 2)) (i : Int) = (qPair p a b i).1 := by
      rw [rdL_nat]; exact getD_map_range _ _ (by omega)
    refine Ev.step (fun m => by rw [impl_Jacobi_associated.l0]) ?_
    rw [hw, hr, hr']
    refine Ev.pos (by omega) (Ev.bindE (a := p) rfl (Ev.pos (by omega) (Ev.pos (by omega) (Ev.pos (by omega) (Ev.pos (by omega) (Ev.pos (by omega) ?_))))))
    rw [rd_nat, rd_nat]
    refine Ev.bind (implNext_ev hp (ha.get (i := i + 1) (by omega)) (hb.get (i := i + 1) (by omega)) _ _ h.1.2 h.1.1 (by omega) (by omega)) (Ev.pos (by omega) ?_)
    rw [wsucc (i := i + 1) (n := a.length) (by omega) (by omega)]
    have := ih (i + 1) (by omega)
    rw [show qAll p a b (i + 1 + 2) = qAll p a b (i + 2) ++ [(qPair p a b (i + 2)).1] from map_range_succ _ _] at this
    exact this
theorem implAssoc_ev {p : Int} (hp : Pm p) (a b : List Int) (ha : Nm p a) (hb : Nm p b) (h1 : 1 ≤ a.length) (hl : a.length ≤ 12) (hab : b.length = a.length) :
    Ev (fun m => impl_Jacobi_associated.f m p a b) (qAll p a b (a.length + 1)) := by
  unfold impl_Jacobi_associated.f
  exact implAssoc_l0 hp a b ha hb hl hab (a.length - 1) 0 (by omega)
end Go.Proofs.Ytgneldhhlfjjaaa.Pr
/- WronskiAt: for all arguments the program and the reference come to one value; no condition. -/
namespace Go.Proofs.Ytgneldhhlfjjaaa.Pr
open Go.RowKit Go.Proofs.YtgneldhhlfjjaaaW.PrintWords Go.Proofs.YtgneldhhlfjjaaaW.PrintLast Go.Proofs.YtgneldhhlfjjaaaW.PrintMore

theorem WronskiAt_both (p : Int) (a b : List Int) (k : Int) (ha : Sm a.length) (hb : Sm b.length) :
    ∃ v : List Int × Int, Ev (fun n => spec_WronskiAt.f n p a b k) v ∧ Ev (fun n => impl_WronskiAt.f n p a b k) v ∧ Sm v.1.length := by
  have ha' := ha
  unfold Sm at ha'
  have hw : wrap64 ((a.length : Int) - 1) = (a.length : Int) - 1 := wrap_id (by omega) (by omega)
  have hs := specJacCode_ev p a b k 0 ((a.length : Int) - 1) ha hb
  have hi := implJacCode_ev p a b (decide (0 ≤ k ∧ k ≤ (a.length : Int) - 1)) ha hb
  by_cases h : jacC p a b (decide (0 ≤ k ∧ k ≤ (a.length : Int) - 1)) = 0
  · obtain ⟨h1, h2⟩ := jacC0 h
    have h3 := of_decide_eq_true h2
    obtain ⟨⟨⟨h4, h5⟩, h6⟩, h7, h8⟩ := jacB.all h1
    have hp := jacB.pm h1
    have hp2 := hp.two
    have hpt := hp.top
    obtain ⟨i, rfl⟩ : ∃ i : Nat, k = (i : Int) := ⟨k.toNat, by omega⟩
    have hwi : wrap64 ((i : Int) + 1) = ((i + 1 : Nat) : Int) := wsucc (n := a.length) (by omega) (by omega)
    have o1 := pPair_ok hp a b i
    have o2 := pPair_ok hp a b (i + 1)
    have o3 := qPair_ok hp a b i
    have o4 := qPair_ok hp a b (i + 1)
    have l1 := pmul_len p (pPair p a b i).2 (qPair p a b (i + 1)).1
    have l2 := pmul_len p (qPair p a b i).1 (pPair p a b (i + 1)).2
    have l3 := padd_len p (pmul p (pPair p a b i).2 (qPair p a b (i + 1)).1) (pmul p (qPair p a b i).1 (pPair p a b (i + 1)).2) (p - 1)
    refine ⟨(padd p (pmul p (pPair p a b i).2 (qPair p a b (i + 1)).1) (pmul p (qPair p a b i).1 (pPair p a b (i + 1)).2) (p - 1), 0), ?_, ?_, by unfold Sm; dsimp only; omega⟩
    · unfold spec_WronskiAt.f
      rw [hw]
      refine Ev.bind hs (Ev.pos h ?_)
      rw [hwi, wrap_id (x := p - 1) (by omega) (by omega)]
      refine Ev.bind (specPoly03_ev hp a b h7 h8.nm i (by omega) h5 h6) (Ev.bind (specSecond_ev hp a b h7 h8.nm (i + 1) (by omega) h5 h6) (Ev.bind (specMul_ev hp _ _ o1.1.2 o4.1.1 (by unfold Sm; omega) (by unfold Sm; omega) (by unfold Sm; omega)) ?_))
      refine Ev.bind (specSecond_ev hp a b h7 h8.nm i (by omega) h5 h6) (Ev.bind (specPoly03_ev hp a b h7 h8.nm (i + 1) (by omega) h5 h6) (Ev.bind (specMul_ev hp _ _ o3.1.1 o2.1.2 (by unfold Sm; omega) (by unfold Sm; omega) (by unfold Sm; omega)) ?_))
      exact Ev.bind (specAdd_ev hp (by omega) _ _ (pmul_nm hp.pos _ _) (pmul_nm hp.pos _ _) (by unfold Sm; omega) (by unfold Sm; omega)) (Ev.now _)
    · unfold impl_WronskiAt.f
      refine Ev.bindE (size_eq p a b) ?_
      rw [hw]
      refine Ev.bindE (within_eq _ _ _) (Ev.bind hi (Ev.pos h ?_))
      have np : (pAll p a b (a.length + 1)).length = a.length + 1 := by simp [pAll]
      have nq : (qAll p a b (a.length + 1)).length = a.length + 1 := by simp [qAll]
      have r1 : rd_L1 (pAll p a b (a.length + 1)) (i : Int) = (pPair p a b i).2 := by rw [rdL_nat]; exact getD_map_range _ _ (by omega)
      have r2 : rd_L1 (pAll p a b (a.length + 1)) ((i + 1 : Nat) : Int) = (pPair p a b (i + 1)).2 := by rw [rdL_nat]; exact getD_map_range _ _ (by omega)
      have r3 : rd_L1 (qAll p a b (a.length + 1)) (i : Int) = (qPair p a b i).1 := by rw [rdL_nat]; exact getD_map_range _ _ (by omega)
      have r4 : rd_L1 (qAll p a b (a.length + 1)) ((i + 1 : Nat) : Int) = (qPair p a b (i + 1)).1 := by rw [rdL_nat]; exact getD_map_range _ _ (by omega)
      have hm1 : (-1 : Int) % p = p - 1 := by
        rw [show (-1 : Int) = (p - 1) + p * (-1) from by omega, Int.add_mul_emod_self_left]
        exact Int.emod_eq_of_lt (by omega) (by omega)
      rw [hwi]
      refine Ev.bindE (a := p) rfl (Ev.bind (implPolys_ev hp a b h7 h8.nm h5 h6) (Ev.bind (implAssoc_ev hp a b h7 h8.nm h4 h5 h6) ?_))
      rw [r1, r2, r3, r4]
      refine Ev.pos (by omega) (Ev.pos (by omega) (Ev.pos (by omega) (Ev.pos (by omega) ?_)))
      refine Ev.bind (implMul_ev hp _ _ o1.1.2 o4.1.1 (by unfold Sm; omega) (by unfold Sm; omega) (by unfold Sm; omega)) (Ev.pos (by omega) (Ev.pos (by omega) ?_))
      refine Ev.bind (implMul_ev hp _ _ o3.1.1 o2.1.2 (by unfold Sm; omega) (by unfold Sm; omega) (by unfold Sm; omega)) (Ev.bindE (mod_eq hp _) ?_)
      rw [hm1]
      exact Ev.bind (implAdd_ev hp (by omega) _ _ (pmul_nm hp.pos _ _) (pmul_nm hp.pos _ _) (by unfold Sm; omega) (by unfold Sm; omega)) (Ev.now _)
  · refine ⟨([], jacC p a b (decide (0 ≤ k ∧ k ≤ (a.length : Int) - 1))), ?_, ?_, Sm0⟩
    · unfold spec_WronskiAt.f
      rw [hw]
      exact Ev.bind hs (Ev.neg h (Ev.now _))
    · unfold impl_WronskiAt.f
      refine Ev.bindE (size_eq p a b) ?_
      rw [hw]
      exact Ev.bindE (within_eq _ _ _) (Ev.bind hi (Ev.neg h (Ev.now _)))
end Go.Proofs.Ytgneldhhlfjjaaa.Pr
