/- Texts of this session in one: what functions of the program compute, and plain facts of it, under the conditions that each theorem names. -/
import Derived.Test.YteoipomgldioeaaKFimplIsRule
import Derived.Test.YteoipomgldioeaaKFspecl07Is
import Derived.Test.YteoipomgldioeaaKSumOf1
import Derived.Test.YteoipomgldioeaaKSumOf3
import Derived.Test.YteoipomgldioeaaKSumOf4
import Derived.Test.YteoipomgldioeaaKSumOf5
import Derived.Test.YteoipomgldioeaaKSumOf6
/- Printed by a program of this session out of the translation: what these functions of the program compute, under the conditions that each theorem names. -/
namespace Go.Proofs.Yteoipomgldioeaa.Pr
open Go.RowKit Go.Proofs.YteoipomgldioeaaW.PrintWords Go.Proofs.YteoipomgldioeaaW.PrintLast Go.Proofs.YteoipomgldioeaaW.PrintMore
attribute [local go_sem] max2_int min2_int max_two min_two max_three min_three max_four min_four   -- for this text's walks alone
set_option linter.unusedVariables false
set_option linter.unusedSimpArgs false

/-! ### spec_SumOf: function 20 -/
def spec_SumOf.f (k : Nat) (a0_0 : Int) (l0_1 : List Int) (l0_2 : List Int) (l1 : List Int) : Option (Int × Int) := (spec_l07Is.f k a0_0 l0_1 l0_2).bind fun t249 => (if t249 = true then ((spec_l01Poly.f k a0_0 l1).bind fun t250 => (if t250 = true then ((spec_l07Sum.f k a0_0 l0_1 l0_2 l1).bind fun t251 => (some (t251, 0))) else (some (0, 1)))) else (some (0, 1)))
theorem spec_SumOf.mono : ∀ a0 a1 a2 a3 k, LeO (spec_SumOf.f k a0 a1 a2 a3) (spec_SumOf.f (k + 1) a0 a1 a2 a3) := by
 intro a0 a1 a2 a3 k
 unfold spec_SumOf.f
 repeat' first
   | (with_reducible exact spec_l01Poly.mono _ _ _)
   | (with_reducible exact spec_l07Is.mono _ _ _ _)
   | (with_reducible exact spec_l07Sum.mono _ _ _ _ _)
   | (with_reducible exact LeO.refl _)
   | (with_reducible exact LeO.none _)
   | (with_reducible refine LeO.ite ?_ ?_)
   | (with_reducible refine LeO.bind ?_ (fun _ => ?_))
   | exact spec_l01Poly.mono _ _ _
   | exact spec_l07Is.mono _ _ _ _
   | exact spec_l07Sum.mono _ _ _ _ _
   | exact LeO.none _
   | refine LeO.ite ?_ ?_
   | refine LeO.bind ?_ (fun _ => ?_)
set_option maxHeartbeats 8000000 in
set_option maxRecDepth 100000 in
theorem spec_SumOf.calls (k : Nat) (a0_0 : Int) (A0_1 : Option Addr) (c0_1 : Nat) (l0_1 : List Int) (A0_2 : Option Addr) (c0_2 : Nat) (l0_2 : List Int) (A1 : Option Addr) (c1 : Nat) (l1 : List Int) (r1 : Int) (r2 : Int) (w : World) (hr0_1 : Kd.C (Kd.int .i64) w A0_1 l0_1.length l0_1) (hc0_1 : l0_1.length ≤ c0_1) (hr0_2 : Kd.C (Kd.int .i64) w A0_2 l0_2.length l0_2) (hc0_2 : l0_2.length ≤ c0_2) (hr1 : Kd.C (Kd.int .i64) w A1 l1.length l1) (hc1 : l1.length ≤ c1) (h : spec_SumOf.f k a0_0 l0_1 l0_2 l1 = some (r1, r2)) :
  Calls Try.prog 20 #[.agg #[.int .i64 a0_0, .slice A0_1 l0_1.length c0_1, .slice A0_2 l0_2.length c0_2], .slice A1 l1.length c1] w fun e w' => e = .returned (.tuple #[.int .i64 r1, .int .i64 r2]) ∧ Below w.heap.size w w' := by
 have hu26 := Try.underlying26
 have HR0_1 := zA hr0_1
 have HC0_1 := zA hc0_1
 clear hr0_1 hc0_1
 have HR0_2 := zA hr0_2
 have HC0_2 := zA hc0_2
 clear hr0_2 hc0_2
 have HR1 := zA hr1
 have HC1 := zA hc1
 clear hr1 hc1
 have HB := zA (Below.refl w.heap.size w)
 have H : ((spec_l07Is.f k a0_0 l0_1 l0_2).bind fun t249 => (if t249 = true then ((spec_l01Poly.f k a0_0 l1).bind fun t250 => (if t250 = true then ((spec_l07Sum.f k a0_0 l0_1 l0_2 l1).bind fun t251 => (some (t251, 0))) else (some (0, 1)))) else (some (0, 1)))) = some (r1, r2) := h
 clear h
 replace H := Option.bind_eq_some_iff.mp H
 obtain ⟨t249, A30, H⟩ := H
 replace H : (if t249 = true then ((spec_l01Poly.f k a0_0 l1).bind fun t250 => (if t250 = true then ((spec_l07Sum.f k a0_0 l0_1 l0_2 l1).bind fun t251 => (some (t251, 0))) else (some (0, 1)))) else (some (0, 1))) = some (r1, r2) := H
 have A3 := zA A30
 clear A30
 by_cases c4 : t249 = true
 ·subst c4
  have H1 : ((spec_l01Poly.f k a0_0 l1).bind fun t250 => (if t250 = true then ((spec_l07Sum.f k a0_0 l0_1 l0_2 l1).bind fun t251 => (some (t251, 0))) else (some (0, 1)))) = some (r1, r2) := by rw [if_pos rfl] at H; exact H
  clear H
  have H := H1
  clear H1
  replace H := Option.bind_eq_some_iff.mp H
  obtain ⟨t250, A50, H⟩ := H
  replace H : (if t250 = true then ((spec_l07Sum.f k a0_0 l0_1 l0_2 l1).bind fun t251 => (some (t251, 0))) else (some (0, 1))) = some (r1, r2) := H
  have A5 := zA A50
  clear A50
  by_cases c6 : t250 = true
  ·subst c6
   have H1 : ((spec_l07Sum.f k a0_0 l0_1 l0_2 l1).bind fun t251 => (some (t251, 0))) = some (r1, r2) := by rw [if_pos rfl] at H; exact H
   clear H
   have H := H1
   clear H1
   replace H := Option.bind_eq_some_iff.mp H
   obtain ⟨t251, A70, H⟩ := H
   replace H : (some (t251, 0)) = some (r1, r2) := H
   have A7 := zA A70
   clear A70
   simp only [Option.some.injEq, Prod.mk.injEq] at H
   obtain ⟨rfl, rfl⟩ := H
   go_enter Try.func20, Try.ntmps20
   go_wp2_with (first | ((with_reducible refine gate_dst (N := 2) rfl ?_); refine box_event ?hg (N := 2) ?hd (cs := #[.int .i64 a0_0, .slice A0_1 l0_1.length c0_1, .slice A0_2 l0_2.length c0_2]) (t := 26) ?hr ?_; (case hd => rfl); (case hg => rfl); (case hr => first | (go_simp; done) | (go_simp; rfl)); intro gb248 hg w8 hbox hb; have n0_ := xH HB hb; have n1_ := zA (hbox); have n2_ := zA ((by rw [hg]; exact (below_size (uH HB.out)) : w.heap.size ≤ gb248)); have n3_ := zA ((by rw [hg]; exact (below_size (uH HB.out)) : w.heap.size ≤ gb248)); clear HB; have HB := n0_; have BK248 := n1_; have GW248 := n2_; have GE248 := n3_; have := geI GE248; clear n0_ n1_ n2_ n3_ hb hbox hg; have hcz9_0 : w8.cell? ⟨gb248, 0, none⟩ = some (.int .i64 a0_0) := (blk_cell BK248.out 0).trans rfl; have hcz9_1 : w8.cell? ⟨gb248, 1, none⟩ = some (.slice A0_1 l0_1.length c0_1) := (blk_cell BK248.out 1).trans rfl; have hcz9_2 : w8.cell? ⟨gb248, 2, none⟩ = some (.slice A0_2 l0_2.length c0_2) := (blk_cell BK248.out 2).trans rfl; have hfz9_0 := blk_frozen BK248.out 0; have hfz9_1 := blk_frozen BK248.out 1; have hfz9_2 := blk_frozen BK248.out 2) | ((with_reducible refine gate_callee (f := 52) rfl ?_); refine goesL_ (some 7) rfl rfl Try.func52 (by kernel_rfl) rfl #[.agg #[.int .i64 a0_0, .slice A0_1 l0_1.length c0_1, .slice A0_2 l0_2.length c0_2]] rfl (by (try simp only [la, lb, lc]); first | done | rfl | (simp only [ld, le]; rfl)) ?_; (with_reducible refine (spec_l07Is.calls k a0_0 _ _ l0_1 _ _ l0_2 true _ ?side1 ?side2 ?side3 ?side4 A3.out).mono ?_); (case side1 => exact uC ((Kd.C_below HR0_1.out HB.out))); (case side2 => exact HC0_1.out); (case side3 => exact uC ((Kd.C_below HR0_2.out HB.out))); (case side4 => exact HC0_2.out); rintro e w10 ⟨rfl, hb⟩; refine ⟨_, rfl, ?_⟩; have n0_ := xB BK248 hb; have n1_ := xH HB hb; clear BK248 HB; have BK248 := n0_; have HB := n1_; clear n0_ n1_; (try clear hb); (try clear hb2); (try clear hk); (try clear hi); have hcz11_0 : w10.cell? ⟨gb248, 0, none⟩ = some (.int .i64 a0_0) := (blk_cell BK248.out 0).trans rfl; have hcz11_1 : w10.cell? ⟨gb248, 1, none⟩ = some (.slice A0_1 l0_1.length c0_1) := (blk_cell BK248.out 1).trans rfl; have hcz11_2 : w10.cell? ⟨gb248, 2, none⟩ = some (.slice A0_2 l0_2.length c0_2) := (blk_cell BK248.out 2).trans rfl; have hfz11_0 := blk_frozen BK248.out 0; have hfz11_1 := blk_frozen BK248.out 1; have hfz11_2 := blk_frozen BK248.out 2) | (go_at_call 55; (with_reducible refine (spec_l01Poly.calls k a0_0 _ _ l1 true _ ?side1 ?side2 A5.out).mono ?_); (case side1 => exact uC ((Kd.C_below HR1.out HB.out))); (case side2 => exact HC1.out); rintro e w' ⟨rfl, ⟨nd, rfl⟩⟩) | ((with_reducible refine gate_callee (f := 56) rfl ?_); refine goesL_ (some 18) rfl rfl Try.func56 (by kernel_rfl) rfl #[.agg #[.int .i64 a0_0, .slice A0_1 l0_1.length c0_1, .slice A0_2 l0_2.length c0_2], .slice A1 l1.length c1] rfl (by (try simp only [la, lb, lc]); first | done | rfl | (simp only [ld, le]; rfl)) ?_; (with_reducible refine (spec_l07Sum.calls k a0_0 _ _ l0_1 _ _ l0_2 _ _ l1 t251 _ ?side1 ?side2 ?side3 ?side4 ?side5 ?side6 A7.out).mono ?_); (case side1 => repeat (first | exact (Kd.C_below HR0_1.out (uH HB.out)) | (with_reducible refine Kd.C_alloc ?_ _) | (with_reducible refine Kd.C_drewN ?_ _) | (with_reducible refine Kd.C_drew ?_))); (case side2 => exact HC0_1.out); (case side3 => repeat (first | exact (Kd.C_below HR0_2.out (uH HB.out)) | (with_reducible refine Kd.C_alloc ?_ _) | (with_reducible refine Kd.C_drewN ?_ _) | (with_reducible refine Kd.C_drew ?_))); (case side4 => exact HC0_2.out); (case side5 => repeat (first | exact (Kd.C_below HR1.out (uH HB.out)) | (with_reducible refine Kd.C_alloc ?_ _) | (with_reducible refine Kd.C_drewN ?_ _) | (with_reducible refine Kd.C_drew ?_))); (case side6 => exact HC1.out); rintro e w12 ⟨rfl, hb⟩; refine ⟨_, rfl, ?_⟩; have n0_ := xB BK248 hb; have n1_ := xH HB hb; clear BK248 HB; have BK248 := n0_; have HB := n1_; clear n0_ n1_; (try clear hb); (try clear hb2); (try clear hk); (try clear hi)))
   go_ret2
   exact ⟨by first | rfl | (simp [errW_none, errW_some] <;> rfl) | (simp [*, errW_none, errW_some] <;> rfl), uH HB.out⟩
  ·replace c6 := Bool.eq_false_iff.mpr c6
   subst c6
   have H1 : (some (0, 1)) = some (r1, r2) := by rw [if_neg (show ¬ (false = true) by decide)] at H; exact H
   clear H
   have H := H1
   clear H1
   simp only [Option.some.injEq, Prod.mk.injEq] at H
   obtain ⟨rfl, rfl⟩ := H
   go_enter Try.func20, Try.ntmps20
   go_wp2_with (first | ((with_reducible refine gate_dst (N := 2) rfl ?_); refine box_event ?hg (N := 2) ?hd (cs := #[.int .i64 a0_0, .slice A0_1 l0_1.length c0_1, .slice A0_2 l0_2.length c0_2]) (t := 26) ?hr ?_; (case hd => rfl); (case hg => rfl); (case hr => first | (go_simp; done) | (go_simp; rfl)); intro gb248 hg w13 hbox hb; have n0_ := xH HB hb; have n1_ := zA (hbox); have n2_ := zA ((by rw [hg]; exact (below_size (uH HB.out)) : w.heap.size ≤ gb248)); have n3_ := zA ((by rw [hg]; exact (below_size (uH HB.out)) : w.heap.size ≤ gb248)); clear HB; have HB := n0_; have BK248 := n1_; have GW248 := n2_; have GE248 := n3_; have := geI GE248; clear n0_ n1_ n2_ n3_ hb hbox hg; have hcz14_0 : w13.cell? ⟨gb248, 0, none⟩ = some (.int .i64 a0_0) := (blk_cell BK248.out 0).trans rfl; have hcz14_1 : w13.cell? ⟨gb248, 1, none⟩ = some (.slice A0_1 l0_1.length c0_1) := (blk_cell BK248.out 1).trans rfl; have hcz14_2 : w13.cell? ⟨gb248, 2, none⟩ = some (.slice A0_2 l0_2.length c0_2) := (blk_cell BK248.out 2).trans rfl; have hfz14_0 := blk_frozen BK248.out 0; have hfz14_1 := blk_frozen BK248.out 1; have hfz14_2 := blk_frozen BK248.out 2) | ((with_reducible refine gate_callee (f := 52) rfl ?_); refine goesL_ (some 7) rfl rfl Try.func52 (by kernel_rfl) rfl #[.agg #[.int .i64 a0_0, .slice A0_1 l0_1.length c0_1, .slice A0_2 l0_2.length c0_2]] rfl (by (try simp only [la, lb, lc]); first | done | rfl | (simp only [ld, le]; rfl)) ?_; (with_reducible refine (spec_l07Is.calls k a0_0 _ _ l0_1 _ _ l0_2 true _ ?side1 ?side2 ?side3 ?side4 A3.out).mono ?_); (case side1 => exact uC ((Kd.C_below HR0_1.out HB.out))); (case side2 => exact HC0_1.out); (case side3 => exact uC ((Kd.C_below HR0_2.out HB.out))); (case side4 => exact HC0_2.out); rintro e w15 ⟨rfl, hb⟩; refine ⟨_, rfl, ?_⟩; have n0_ := xB BK248 hb; have n1_ := xH HB hb; clear BK248 HB; have BK248 := n0_; have HB := n1_; clear n0_ n1_; (try clear hb); (try clear hb2); (try clear hk); (try clear hi); have hcz16_0 : w15.cell? ⟨gb248, 0, none⟩ = some (.int .i64 a0_0) := (blk_cell BK248.out 0).trans rfl; have hcz16_1 : w15.cell? ⟨gb248, 1, none⟩ = some (.slice A0_1 l0_1.length c0_1) := (blk_cell BK248.out 1).trans rfl; have hcz16_2 : w15.cell? ⟨gb248, 2, none⟩ = some (.slice A0_2 l0_2.length c0_2) := (blk_cell BK248.out 2).trans rfl; have hfz16_0 := blk_frozen BK248.out 0; have hfz16_1 := blk_frozen BK248.out 1; have hfz16_2 := blk_frozen BK248.out 2) | (go_at_call 55; (with_reducible refine (spec_l01Poly.calls k a0_0 _ _ l1 false _ ?side1 ?side2 A5.out).mono ?_); (case side1 => exact uC ((Kd.C_below HR1.out HB.out))); (case side2 => exact HC1.out); rintro e w' ⟨rfl, ⟨nd, rfl⟩⟩))
   go_ret2
   exact ⟨by first | rfl | (simp [errW_none, errW_some] <;> rfl) | (simp [*, errW_none, errW_some] <;> rfl), uH HB.out⟩
 ·replace c4 := Bool.eq_false_iff.mpr c4
  subst c4
  have H1 : (some (0, 1)) = some (r1, r2) := by rw [if_neg (show ¬ (false = true) by decide)] at H; exact H
  clear H
  have H := H1
  clear H1
  simp only [Option.some.injEq, Prod.mk.injEq] at H
  obtain ⟨rfl, rfl⟩ := H
  go_enter Try.func20, Try.ntmps20
  go_wp2_with (first | ((with_reducible refine gate_dst (N := 2) rfl ?_); refine box_event ?hg (N := 2) ?hd (cs := #[.int .i64 a0_0, .slice A0_1 l0_1.length c0_1, .slice A0_2 l0_2.length c0_2]) (t := 26) ?hr ?_; (case hd => rfl); (case hg => rfl); (case hr => first | (go_simp; done) | (go_simp; rfl)); intro gb248 hg w17 hbox hb; have n0_ := xH HB hb; have n1_ := zA (hbox); have n2_ := zA ((by rw [hg]; exact (below_size (uH HB.out)) : w.heap.size ≤ gb248)); have n3_ := zA ((by rw [hg]; exact (below_size (uH HB.out)) : w.heap.size ≤ gb248)); clear HB; have HB := n0_; have BK248 := n1_; have GW248 := n2_; have GE248 := n3_; have := geI GE248; clear n0_ n1_ n2_ n3_ hb hbox hg; have hcz18_0 : w17.cell? ⟨gb248, 0, none⟩ = some (.int .i64 a0_0) := (blk_cell BK248.out 0).trans rfl; have hcz18_1 : w17.cell? ⟨gb248, 1, none⟩ = some (.slice A0_1 l0_1.length c0_1) := (blk_cell BK248.out 1).trans rfl; have hcz18_2 : w17.cell? ⟨gb248, 2, none⟩ = some (.slice A0_2 l0_2.length c0_2) := (blk_cell BK248.out 2).trans rfl; have hfz18_0 := blk_frozen BK248.out 0; have hfz18_1 := blk_frozen BK248.out 1; have hfz18_2 := blk_frozen BK248.out 2) | ((with_reducible refine gate_callee (f := 52) rfl ?_); refine goesL_ (some 7) rfl rfl Try.func52 (by kernel_rfl) rfl #[.agg #[.int .i64 a0_0, .slice A0_1 l0_1.length c0_1, .slice A0_2 l0_2.length c0_2]] rfl (by (try simp only [la, lb, lc]); first | done | rfl | (simp only [ld, le]; rfl)) ?_; (with_reducible refine (spec_l07Is.calls k a0_0 _ _ l0_1 _ _ l0_2 false _ ?side1 ?side2 ?side3 ?side4 A3.out).mono ?_); (case side1 => exact uC ((Kd.C_below HR0_1.out HB.out))); (case side2 => exact HC0_1.out); (case side3 => exact uC ((Kd.C_below HR0_2.out HB.out))); (case side4 => exact HC0_2.out); rintro e w19 ⟨rfl, hb⟩; refine ⟨_, rfl, ?_⟩; have n0_ := xB BK248 hb; have n1_ := xH HB hb; clear BK248 HB; have BK248 := n0_; have HB := n1_; clear n0_ n1_; (try clear hb); (try clear hb2); (try clear hk); (try clear hi)))
  go_ret2
  exact ⟨by first | rfl | (simp [errW_none, errW_some] <;> rfl) | (simp [*, errW_none, errW_some] <;> rfl), uH HB.out⟩

end Go.Proofs.Yteoipomgldioeaa.Pr
/- Rules: what the program and the reference take for one. -/
namespace Go.Proofs.Yteoipomgldioeaa.Pr
open Go.RowKit Go.Proofs.YteoipomgldioeaaW.PrintWords Go.Proofs.YteoipomgldioeaaW.PrintLast Go.Proofs.YteoipomgldioeaaW.PrintMore

def ascFrom (l : List Int) (i : Nat) : Prop := ∀ j, j < l.length → i ≤ j → l.getD (j - 1) 0 < l.getD j 0
instance (l : List Int) (i : Nat) : Decidable (ascFrom l i) := by unfold ascFrom; infer_instance
theorem asc_l0 (l : List Int) (hl : Sm l.length) (d : Nat) : ∀ i, 1 ≤ i → (i + d = l.length ∨ d = 0 ∧ l.length ≤ i) → i ≤ l.length + 1 → Ev (fun k => impl_areAscending.l0 k l (i : Int)) (decide (ascFrom l i)) := by
  induction d with
  | zero =>
    intro i hi hd _
    refine Ev.step (fun k => by rw [impl_areAscending.l0]) ?_
    refine Ev.neg (by omega) (Ev.some' ?_)
    exact (decide_eq_true (fun j h1 h2 => by omega)).symm
  | succ d ih =>
    intro i hi hd _
    unfold Sm at hl
    refine Ev.step (fun k => by rw [impl_areAscending.l0]) ?_
    refine Ev.pos (by omega) (Ev.pos (by omega) ?_)
    rw [wpred (by omega) (by omega)]
    refine Ev.pos (by omega) (Ev.pos (by omega) ?_)
    rw [rd_nat, rd_nat, wsucc (i := i) (n := l.length) (by omega) (by omega)]
    by_cases h : l.getD i 0 ≤ l.getD (i - 1) 0
    · refine Ev.pos h (Ev.some' (decide_eq_false (fun g => ?_)).symm)
      have := g i (by omega) (by omega)
      omega
    · refine Ev.neg h (Ev.cast (ih (i + 1) (by omega) (by omega) (by omega)) ?_)
      apply decide_eq_decide.2
      constructor
      · intro g j h1 h2
        by_cases e : j = i
        · subst e; omega
        · exact g j h1 (by omega)
      · exact fun g j h1 h2 => g j h1 (by omega)
theorem asc_ev (l : List Int) (hl : Sm l.length) : Ev (fun k => impl_areAscending.f k l) (decide (ascFrom l 1)) := by
  unfold impl_areAscending.f
  by_cases h : 1 ≤ l.length
  · exact asc_l0 l hl (l.length - 1) 1 (by omega) (by omega) (by omega)
  · exact asc_l0 l hl 0 1 (by omega) (by omega) (by omega)
theorem numbers_eq (p : Int) (l : List Int) (hl : Sm l.length) (a b : Int) : Ev (fun k => impl_areNumbers.f k p l a b) (primeB p && (decide (a ≤ (l.length : Int) ∧ (l.length : Int) ≤ b) && decide (Nm p l))) := by
  unfold impl_areNumbers.f
  refine Ev.bind (implPrime_ev p) ?_
  by_cases hp : primeB p = true
  · rw [hp, Bool.true_and]
    refine Ev.pos rfl (Ev.bindE (a := (l.length : Int)) rfl (Ev.bindE (within_eq _ _ _) ?_))
    by_cases h : a ≤ (l.length : Int) ∧ (l.length : Int) ≤ b
    · refine Ev.pos (decide_eq_true h) (Ev.bindE (areAll_has p l (by unfold Sm at hl; omega)) (Ev.some' ?_))
      rw [decide_eq_true h, Bool.true_and]
    · refine Ev.neg (by simpa using h) (Ev.some' ?_)
      rw [decide_eq_false h, Bool.false_and]
  · rw [Bool.eq_false_iff.2 hp, Bool.false_and]
    exact Ev.neg (by simp) (Ev.now _)

def okFrom (p : Int) (n w : List Int) (i : Nat) : Prop := ∀ j, j < n.length → i ≤ j → (0 ≤ n.getD j 0 ∧ n.getD j 0 < p) ∧ (0 ≤ w.getD j 0 ∧ w.getD j 0 < p) ∧ (0 < j → n.getD (j - 1) 0 < n.getD j 0)
instance (p : Int) (n w : List Int) (i : Nat) : Decidable (okFrom p n w i) := by unfold okFrom; infer_instance
def ruleB (p : Int) (n w : List Int) : Bool := primeB p && decide (n.length ≤ 24 ∧ w.length = n.length ∧ okFrom p n w 0)
theorem Nm_iff (p : Int) (l : List Int) : Nm p l ↔ ∀ j, j < l.length → 0 ≤ l.getD j 0 ∧ l.getD j 0 < p := by
  constructor
  · exact fun h j hj => h.get hj
  · intro h x hx
    obtain ⟨j, hj, rfl⟩ := List.getElem_of_mem hx
    have := h j hj
    simpa [List.getD, hj] using this
theorem okFrom_iff (p : Int) (n w : List Int) (h : w.length = n.length) : okFrom p n w 0 ↔ Nm p n ∧ ascFrom n 1 ∧ Nm p w := by
  rw [Nm_iff, Nm_iff]
  constructor
  · exact fun g => ⟨fun j hj => (g j hj (by omega)).1, fun j hj h1 => (g j hj (by omega)).2.2 (by omega), fun j hj => (g j (by omega) (by omega)).2.1⟩
  · exact fun g j hj _ => ⟨g.1 j hj, g.2.2 j (by omega), fun h0 => g.2.1 j hj (by omega)⟩
theorem specRule_l0 {p : Int} (hp : Pm p) (n w : List Int) (hl : Sm n.length) (hw : w.length = n.length) (d : Nat) : ∀ i, i + d = n.length → Ev (fun k => spec_l07Is.l0 k (i : Int) p n w) (decide (okFrom p n w i)) := by
  have h2 := hp.two
  have ht := hp.top
  induction d with
  | zero =>
    intro i hi
    refine Ev.step (fun k => by rw [spec_l07Is.l0]) ?_
    refine Ev.neg (by omega) (Ev.some' ?_)
    exact (decide_eq_true (fun j h1 h2 => by omega)).symm
  | succ d ih =>
    intro i hi
    unfold Sm at hl
    have next : (0 ≤ n.getD i 0 ∧ n.getD i 0 < p) → (0 ≤ w.getD i 0 ∧ w.getD i 0 < p) → (0 < i → n.getD (i - 1) 0 < n.getD i 0) → Ev (fun k => spec_l07Is.l0 k (wrap64 ((i : Int) + 1)) p n w) (decide (okFrom p n w i)) := by
      intro g1 g2 g3
      rw [wsucc (i := i) (n := n.length) (by omega) (by omega)]
      refine Ev.cast (ih (i + 1) (by omega)) ?_
      apply decide_eq_decide.2
      constructor
      · intro g j h1 h2
        by_cases e : j = i
        · subst e; exact ⟨g1, g2, g3⟩
        · exact g j h1 (by omega)
      · exact fun g j h1 h2 => g j h1 (by omega)
    refine Ev.step (fun k => by rw [spec_l07Is.l0]) ?_
    refine Ev.pos (by omega) (Ev.pos (by omega) (Ev.bindE (in_eq _ _ _) ?_))
    rw [rd_nat, rd_nat, wrap_id (x := p - 1) (by omega) (by omega)]
    by_cases h1 : 0 ≤ n.getD i 0 ∧ n.getD i 0 ≤ p - 1
    · refine Ev.pos (decide_eq_true h1) (Ev.pos (by omega) (Ev.bindE (in_eq _ _ _) ?_))
      by_cases h3 : 0 ≤ w.getD i 0 ∧ w.getD i 0 ≤ p - 1
      · refine Ev.pos (decide_eq_true h3) ?_
        by_cases h0 : 0 < i
        · refine Ev.pos (by omega) ?_
          rw [wpred (by omega) (by omega), rd_nat]
          refine Ev.pos (by omega) (Ev.pos (by omega) ?_)
          by_cases h4 : n.getD i 0 ≤ n.getD (i - 1) 0
          · refine Ev.pos h4 (Ev.some' (decide_eq_false (fun g => ?_)).symm)
            have := (g i (by omega) (by omega)).2.2 h0
            omega
          · exact Ev.neg h4 (next ⟨h1.1, by omega⟩ ⟨h3.1, by omega⟩ (fun _ => by omega))
        · exact Ev.neg (by omega) (next ⟨h1.1, by omega⟩ ⟨h3.1, by omega⟩ (fun h => absurd h h0))
      · refine Ev.neg (by simpa using h3) (Ev.some' (decide_eq_false (fun g => h3 ?_)).symm)
        have := (g i (by omega) (by omega)).2.1
        exact ⟨this.1, by omega⟩
    · refine Ev.neg (by simpa using h1) (Ev.some' (decide_eq_false (fun g => h1 ?_)).symm)
      have := (g i (by omega) (by omega)).1
      exact ⟨this.1, by omega⟩
theorem specRule_ev (p : Int) (n w : List Int) (hn : Sm n.length) (_hw : Sm w.length) : Ev (fun k => spec_l07Is.f k p n w) (ruleB p n w) := by
  unfold spec_l07Is.f ruleB
  refine Ev.bind (specPrime_ev p) ?_
  by_cases hp : primeB p = true
  · rw [hp, Bool.true_and]
    refine Ev.pos rfl ?_
    by_cases h1 : n.length ≤ 24
    · refine Ev.neg (by omega) ?_
      by_cases h2 : w.length = n.length
      · rw [show (((w.length : Int) != (n.length : Int)) : Bool) = false from by simp [h2]]
        refine Ev.step (fun k => by rw [spec_l07Is.j0]) ?_
        refine Ev.neg (by decide) ?_
        refine Ev.cast (specRule_l0 (primeB.pm hp) n w hn h2 n.length 0 (by omega)) ?_
        apply decide_eq_decide.2
        exact ⟨fun g => ⟨h1, h2, g⟩, fun g => g.2.2⟩
      · rw [show (((w.length : Int) != (n.length : Int)) : Bool) = true from by simp; omega]
        refine Ev.step (fun k => by rw [spec_l07Is.j0]) ?_
        refine Ev.pos rfl (Ev.some' (decide_eq_false (fun g => h2 g.2.1)).symm)
    · refine Ev.pos (by omega) ?_
      refine Ev.step (fun k => by rw [spec_l07Is.j0]) ?_
      refine Ev.pos rfl (Ev.some' (decide_eq_false (fun g => h1 g.1)).symm)
  · rw [Bool.eq_false_iff.2 hp, Bool.false_and]
    refine Ev.neg (by simp) ?_
    refine Ev.step (fun k => by rw [spec_l07Is.j0]) ?_
    exact Ev.pos rfl (Ev.now _)
theorem implRule_ev (p : Int) (n w : List Int) (hn : Sm n.length) (hw : Sm w.length) : Ev (fun k => impl_IsRule.f k p n w) (ruleB p n w) := by
  unfold impl_IsRule.f ruleB
  refine Ev.bind (numbers_eq p n hn 0 24) ?_
  by_cases hp : primeB p = true
  · rw [hp, Bool.true_and, Bool.true_and]
    by_cases h1 : n.length ≤ 24 ∧ Nm p n
    · refine Ev.pos (by rw [decide_eq_true (by omega), decide_eq_true h1.2]; rfl) (Ev.bind (asc_ev n hn) ?_)
      by_cases h2 : ascFrom n 1
      · refine Ev.pos (decide_eq_true h2) (Ev.bindE (a := (n.length : Int)) rfl (Ev.bindE (a := (n.length : Int)) rfl (Ev.bind (numbers_eq p w hw _ _) (Ev.some' ?_))))
        rw [hp, Bool.true_and]
        by_cases h3 : w.length = n.length
        · rw [decide_eq_true (by omega), Bool.true_and]
          apply decide_eq_decide.2
          rw [okFrom_iff p n w h3]
          exact ⟨fun g => ⟨h1.1, h3, h1.2, h2, g⟩, fun g => g.2.2.2.2⟩
        · rw [decide_eq_false (by omega), Bool.false_and]
          exact (decide_eq_false (fun g => h3 g.2.1)).symm
      · refine Ev.neg (by simpa using h2) (Ev.some' (decide_eq_false (fun g => h2 ?_)).symm)
        exact ((okFrom_iff p n w g.2.1).1 g.2.2).2.1
    · refine Ev.neg ?_ (Ev.some' (decide_eq_false (fun g => h1 ⟨g.1, ((okFrom_iff p n w g.2.1).1 g.2.2).1⟩)).symm)
      simp only [Bool.and_eq_true, decide_eq_true_eq]
      exact fun g => h1 ⟨by omega, g.2⟩
  · rw [Bool.eq_false_iff.2 hp, Bool.false_and, Bool.false_and]
    exact Ev.neg (by simp) (Ev.now _)
theorem ruleB.pm {p : Int} {n w : List Int} (h : ruleB p n w = true) : Pm p := by
  simp only [ruleB, Bool.and_eq_true] at h; exact primeB.pm h.1
end Go.Proofs.Yteoipomgldioeaa.Pr
/- The codes of a rule; no condition. -/
namespace Go.Proofs.Yteoipomgldioeaa.Pr
open Go.RowKit Go.Proofs.YteoipomgldioeaaW.PrintWords Go.Proofs.YteoipomgldioeaaW.PrintLast Go.Proofs.YteoipomgldioeaaW.PrintMore

theorem ruleB.prime {p : Int} {n w : List Int} (h : ruleB p n w = true) : primeB p = true := by
  simp only [ruleB, Bool.and_eq_true] at h; exact h.1
theorem ruleB.lens {p : Int} {n w : List Int} (h : ruleB p n w = true) : n.length ≤ 24 ∧ w.length = n.length := by
  simp only [ruleB, Bool.and_eq_true, decide_eq_true_eq] at h; exact ⟨h.2.1, h.2.2.1⟩
theorem ruleB.nodes {p : Int} {n w : List Int} (h : ruleB p n w = true) : Nm p n := by
  simp only [ruleB, Bool.and_eq_true, decide_eq_true_eq] at h
  exact (Nm_iff p n).2 fun j hj => (h.2.2.2 j hj (Nat.zero_le _)).1
theorem ruleB.weights {p : Int} {n w : List Int} (h : ruleB p n w = true) : Nm p w := by
  simp only [ruleB, Bool.and_eq_true, decide_eq_true_eq] at h
  exact (Nm_iff p w).2 fun j hj => (h.2.2.2 j (by have := h.2.2.1; omega) (Nat.zero_le _)).2.1
theorem ruleCode_ev (p : Int) (n w : List Int) (b : Bool) (hn : Sm n.length) (hw : Sm w.length) :
    Ev (fun k => impl_ruleCode.f k p n w b []) (if ruleB p n w = true then (if b = true then 0 else 2) else 1) := by
  unfold impl_ruleCode.f
  refine Ev.bind (implRule_ev p n w hn hw) ?_
  by_cases h : ruleB p n w = true
  · rw [if_pos h]
    refine Ev.pos h (Ev.cast (Ev.bind (polyCode_ev p b [] (by simp [Sm]) (fun l hl => by cases hl)) (Ev.now _)) ?_)
    rw [ruleB.prime h]
    cases b <;> rfl
  · rw [if_neg h]
    exact Ev.neg h (Ev.now _)
end Go.Proofs.Yteoipomgldioeaa.Pr
/- SumOf: for all arguments the program and the reference come to one value; no condition. -/
namespace Go.Proofs.Yteoipomgldioeaa.Pr
open Go.RowKit Go.Proofs.YteoipomgldioeaaW.PrintWords Go.Proofs.YteoipomgldioeaaW.PrintLast Go.Proofs.YteoipomgldioeaaW.PrintMore

def sumV (p : Int) (n w f : List Int) : Nat → Nat → Int → Int
  | 0, _, s => s
  | d + 1, i, s => sumV p n w f d (i + 1) ((s + w.getD i 0 * valF p (n.getD i 0) f) % p)
theorem specSumV_l0 {p : Int} (hp : Pm p) (n w f : List Int) (hn : Nm p n) (hw : Nm p w) (hf : Nm p f) (sf : Sm f.length) (hl : n.length ≤ 24) (hwl : w.length = n.length) (d : Nat) : ∀ (i : Nat) (s : Int), i + d = n.length → 0 ≤ s ∧ s < p →
    Ev (fun q => spec_l07Sum.l0 q f s (i : Int) p n w) (sumV p n w f d i s) := by
  induction d with
  | zero =>
    intro i s hi hs
    refine Ev.step (fun q => by rw [spec_l07Sum.l0]) ?_
    exact Ev.neg (by omega) (Ev.now _)
  | succ d ih =>
    intro i s hi hs
    have h1 := hn.get (i := i) (by omega)
    have h2 := hw.get (i := i) (by omega)
    have h3 := valF_in hp (n.getD i 0) f
    have h4 := mulP hp h2.1 h2.2 h3.1 h3.2
    have ht := hp.top
    refine Ev.step (fun q => by rw [spec_l07Sum.l0]) ?_
    refine Ev.pos (by omega) (Ev.pos (by omega) (Ev.pos (by omega) ?_))
    rw [rd_nat, rd_nat]
    refine Ev.bind (specAt_ev hp h1 f hf sf) (Ev.neg hp.ne ?_)
    rw [wrap_id (x := w.getD i 0 * valF p (n.getD i 0) f) (by omega) (by omega), wrap_id (by omega) (by omega), tmod_pos (by omega), wsucc (i := i) (n := n.length) (by omega) (by omega)]
    exact ih (i + 1) _ (by omega) (emodB hp.pos _)
theorem implSumV_l0 {p : Int} (hp : Pm p) (n w f : List Int) (hn : Nm p n) (hw : Nm p w) (hf : Nm p f) (sf : Sm f.length) (hl : n.length ≤ 24) (hwl : w.length = n.length) (d : Nat) : ∀ (i : Nat) (s : Int), i + d = n.length → 0 ≤ s ∧ s < p →
    Ev (fun q => impl_Rule_sum.l0 q f s n (n.length : Int) (i : Int) p n w) (sumV p n w f d i s) := by
  induction d with
  | zero =>
    intro i s hi hs
    refine Ev.step (fun q => by rw [impl_Rule_sum.l0]) ?_
    exact Ev.neg (by omega) (Ev.now _)
  | succ d ih =>
    intro i s hi hs
    have h1 := hn.get (i := i) (by omega)
    have h2 := hw.get (i := i) (by omega)
    have h3 := valF_in hp (n.getD i 0) f
    have h4 := mulP hp h2.1 h2.2 h3.1 h3.2
    have ht := hp.top
    refine Ev.step (fun q => by rw [impl_Rule_sum.l0]) ?_
    rw [rd_nat, rd_nat]
    refine Ev.pos (by omega) (Ev.pos (by omega) (Ev.pos (by omega) (Ev.bindE (a := p) rfl (Ev.pos (by omega) (Ev.bindE (a := p) rfl (Ev.bindE (implValue_eq hp h1 f hf sf) ?_))))))
    rw [wrap_id (x := w.getD i 0 * valF p (n.getD i 0) f) (by omega) (by omega), wrap_id (x := s + w.getD i 0 * valF p (n.getD i 0) f) (by omega) (by omega)]
    refine Ev.bindE (mod_eq hp _) ?_
    rw [wsucc (i := i) (n := n.length) (by omega) (by omega)]
    exact ih (i + 1) _ (by omega) (emodB hp.pos _)
theorem polyB.nm' {p : Int} {f : List Int} (h : polyB p f = true) : Nm p f := by
  simp only [polyB, Bool.and_eq_true, decide_eq_true_eq] at h; exact h.1
theorem SumOf_both (p : Int) (n w f : List Int) (hn : Sm n.length) (hw : Sm w.length) (hf : Sm f.length) :
    ∃ v : Int × Int, Ev (fun k => spec_SumOf.f k p n w f) v ∧ Ev (fun k => impl_SumOf.f k p n w f) v := by
  have hc : Ev (fun k => impl_ruleCode.f k p n w true [f]) (if ruleB p n w = true then (if polyB p f = true then 0 else 1) else 1) := by
    unfold impl_ruleCode.f
    refine Ev.bind (implRule_ev p n w hn hw) ?_
    by_cases h : ruleB p n w = true
    · rw [if_pos h]
      refine Ev.pos h (Ev.cast (Ev.bind (polyCode_ev p true [f] (by simp [Sm]) (fun l hl => by rcases List.mem_singleton.1 hl with rfl; exact hf)) (Ev.now _)) ?_)
      rw [ruleB.prime h]
      simp only [List.all_cons, List.all_nil, Bool.and_true]
      cases polyB p f <;> rfl
    · rw [if_neg h]
      exact Ev.neg h (Ev.now _)
  by_cases h : ruleB p n w = true
  · have hp := ruleB.pm h
    have hl := ruleB.lens h
    rw [if_pos h] at hc
    by_cases g : polyB p f = true
    · rw [if_pos g] at hc
      refine ⟨(sumV p n w f n.length 0 0, 0), ?_, ?_⟩
      · unfold spec_SumOf.f spec_l07Sum.f
        exact Ev.bind (specRule_ev p n w hn hw) (Ev.pos h (Ev.bind (specPoly_ev p f hf) (Ev.pos g (Ev.bind (specSumV_l0 hp n w f (ruleB.nodes h) (ruleB.weights h) (polyB.nm' g) hf hl.1 hl.2 n.length 0 0 (by omega) ⟨Int.le_refl _, hp.pos⟩) (Ev.now _)))))
      · unfold impl_SumOf.f impl_Rule_sum.f
        exact Ev.bind hc (Ev.pos rfl (Ev.bind (implSumV_l0 hp n w f (ruleB.nodes h) (ruleB.weights h) (polyB.nm' g) hf hl.1 hl.2 n.length 0 0 (by omega) ⟨Int.le_refl _, hp.pos⟩) (Ev.now _)))
    · rw [if_neg g] at hc
      refine ⟨(0, 1), ?_, ?_⟩
      · unfold spec_SumOf.f
        exact Ev.bind (specRule_ev p n w hn hw) (Ev.pos h (Ev.bind (specPoly_ev p f hf) (Ev.neg g (Ev.now _))))
      · unfold impl_SumOf.f
        exact Ev.bind hc (Ev.neg (by decide) (Ev.now _))
  · rw [if_neg h] at hc
    refine ⟨(0, 1), ?_, ?_⟩
    · unfold spec_SumOf.f
      exact Ev.bind (specRule_ev p n w hn hw) (Ev.neg h (Ev.now _))
    · unfold impl_SumOf.f
      exact Ev.bind hc (Ev.neg (by decide) (Ev.now _))
end Go.Proofs.Yteoipomgldioeaa.Pr
