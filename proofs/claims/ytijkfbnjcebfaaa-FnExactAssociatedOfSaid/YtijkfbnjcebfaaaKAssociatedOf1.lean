/- Texts of this session in one: what functions of the program compute, and plain facts of it, under the conditions that each theorem names. -/
import Derived.Test.YtijkfbnjcebfaaaKC01
import Derived.Test.YtijkfbnjcebfaaaKC11
import Derived.Test.YtijkfbnjcebfaaaKC12
import Derived.Test.YtijkfbnjcebfaaaKC15
import Derived.Test.YtijkfbnjcebfaaaKC16
namespace Go.Proofs.Ytijkfbnjcebfaaa.Pr
open Go.RowKit Go.Proofs.YtijkfbnjcebfaaaW.PrintWords Go.Proofs.YtijkfbnjcebfaaaW.PrintLast Go.Proofs.YtijkfbnjcebfaaaW.PrintMore
attribute [local go_sem] max2_int min2_int max_two min_two max_three min_three max_four min_four   -- for this text's walks alone
set_option linter.unusedVariables false
set_option linter.unusedSimpArgs false
/-! ### spec_AssociatedOf: function 19 -/
def spec_AssociatedOf.f (k : Nat) (a0_0 : Int) (l0_1 : List Int) (l0_2 : List Int) (a1 : Int) : Option (List Int × Int) := (spec_l03Code.f k a0_0 l0_1 l0_2 a1 0 (l0_1.length : Int)).bind fun t364 => (if t364 = 0 then ((spec_l03Second.f k a0_0 l0_1 l0_2 a1).bind fun t365 => (some (t365, 0))) else (some (([] : List Int), t364)))
theorem spec_AssociatedOf.mono : ∀ a0 a1 a2 a3 k, LeO (spec_AssociatedOf.f k a0 a1 a2 a3) (spec_AssociatedOf.f (k + 1) a0 a1 a2 a3) := by
 intro a0 a1 a2 a3 k
 unfold spec_AssociatedOf.f
 repeat' first
   | (with_reducible exact spec_l03Code.mono _ _ _ _ _ _ _)
   | (with_reducible exact spec_l03Second.mono _ _ _ _ _)
   | (with_reducible exact LeO.refl _)
   | (with_reducible exact LeO.none _)
   | (with_reducible refine LeO.ite ?_ ?_)
   | (with_reducible refine LeO.bind ?_ (fun _ => ?_))
   | exact spec_l03Code.mono _ _ _ _ _ _ _
   | exact spec_l03Second.mono _ _ _ _ _
   | exact LeO.none _
   | refine LeO.ite ?_ ?_
   | refine LeO.bind ?_ (fun _ => ?_)
set_option maxHeartbeats 8000000 in
set_option maxRecDepth 100000 in
theorem spec_AssociatedOf.calls (k : Nat) (a0_0 : Int) (A0_1 : Option Addr) (c0_1 : Nat) (l0_1 : List Int) (A0_2 : Option Addr) (c0_2 : Nat) (l0_2 : List Int) (a1 : Int) (r1 : List Int) (r2 : Int) (w : World) (hr0_1 : Kd.C (Kd.int .i64) w A0_1 l0_1.length l0_1) (hc0_1 : l0_1.length ≤ c0_1) (hr0_2 : Kd.C (Kd.int .i64) w A0_2 l0_2.length l0_2) (hc0_2 : l0_2.length ≤ c0_2) (h : spec_AssociatedOf.f k a0_0 l0_1 l0_2 a1 = some (r1, r2)) :
  Calls Try.prog 19 #[.agg #[.int .i64 a0_0, .slice A0_1 l0_1.length c0_1, .slice A0_2 l0_2.length c0_2], .int .i64 a1] w fun e w' => ∃ v0_ : Value, e = .returned (.tuple #[v0_, .int .i64 r2]) ∧ Kd.R (Kd.int .i64) 2 w' w.heap.size (fun _ => True) v0_ r1 ∧ Below w.heap.size w w' := by
 have hu28 := Try.underlying28
 have HR0_1 := zA hr0_1
 have HC0_1 := zA hc0_1
 clear hr0_1 hc0_1
 have HR0_2 := zA hr0_2
 have HC0_2 := zA hc0_2
 clear hr0_2 hc0_2
 have HB := zA (Below.refl w.heap.size w)
 have H : ((spec_l03Code.f k a0_0 l0_1 l0_2 a1 0 (l0_1.length : Int)).bind fun t364 => (if t364 = 0 then ((spec_l03Second.f k a0_0 l0_1 l0_2 a1).bind fun t365 => (some (t365, 0))) else (some (([] : List Int), t364)))) = some (r1, r2) := h
 clear h
 replace H := Option.bind_eq_some_iff.mp H
 obtain ⟨t364, A30, H⟩ := H
 replace H : (if t364 = 0 then ((spec_l03Second.f k a0_0 l0_1 l0_2 a1).bind fun t365 => (some (t365, 0))) else (some (([] : List Int), t364))) = some (r1, r2) := H
 have A3 := zA A30
 clear A30
 by_cases c4 : t364 = 0
 rotate_left
 ·rw [if_neg c4] at H
  have c4b0 : (t364 == 0) = false := beq_eq_false_iff_ne.mpr c4
  have c4b1 : (t364 != 0) = true := bne_iff_ne.mpr c4
  simp only [Option.some.injEq, Prod.mk.injEq] at H
  obtain ⟨rfl, rfl⟩ := H
  go_enter Try.func19, Try.ntmps19
  go_wp2_with (first | ((with_reducible refine gate_dst (N := 2) rfl ?_); refine bx 2 #[.int .i64 a0_0, .slice A0_1 l0_1.length c0_1, .slice A0_2 l0_2.length c0_2] 28 ?_; intro gb363 hg w11 hbox hb; have BK363 := zA (hbox); have GW363 := gq HB hg; have GE363 := gq HB hg; replace HB := xH HB hb; have := geI GE363; clear hb hbox hg; have hcz12_0 := bc BK363 0; have hcz12_1 := bc BK363 1; have hcz12_2 := bc BK363 2; have hfz12_0 := bf BK363 0; have hfz12_1 := bf BK363 1; have hfz12_2 := bf BK363 2) | ((with_reducible refine gate_callee (f := 46) rfl ?_); refine gL (some 12) Try.func46 #[.agg #[.int .i64 a0_0, .slice A0_1 l0_1.length c0_1, .slice A0_2 l0_2.length c0_2], .int .i64 a1, .int .i64 0, .int .i64 (l0_1.length : Int)] ?_; (with_reducible refine (spec_l03Code.calls k a0_0 _ _ l0_1 _ _ l0_2 a1 0 (l0_1.length : Int) t364 _ ?side1 ?side2 ?side3 ?side4 A3.out).mono ?_); (case side1 => exact uC ((Kd.C_below HR0_1.out HB.out))); (case side2 => exact HC0_1.out); (case side3 => exact uC ((Kd.C_below HR0_2.out HB.out))); (case side4 => exact HC0_2.out); rintro e w13 ⟨rfl, hb⟩; refine ⟨_, rfl, ?_⟩; replace BK363 := xB BK363 hb; replace HB := xH HB hb; (try clear hb); (try clear hb2); (try clear hk); (try clear hi)))
  go_ret2
  exact ⟨_, by first | rfl | (simp [errW_none, errW_some] <;> rfl) | (simp [*, errW_none, errW_some] <;> rfl), by first | exact Kd.R_nil _ _ _ _ _ | exact Kd.N_nil _ _ _ _ _ | exact Kd.V_nil _ _ _ _ _ | exact Kd.Q_nil _ _ _ _ _ | exact Kd.S_nil _ _ _ _ _, uH HB.out⟩

 rw [if_pos c4] at H
 have c4b0 : (t364 == 0) = true := beq_iff_eq.mpr c4
 have c4b1 : (t364 != 0) = false := bne_eq_false_iff_eq.mpr c4
 clear c4
 replace H := Option.bind_eq_some_iff.mp H
 obtain ⟨t365, A50, H⟩ := H
 replace H : (some (t365, 0)) = some (r1, r2) := H
 have A5 := zA A50
 clear A50
 simp only [Option.some.injEq, Prod.mk.injEq] at H
 obtain ⟨rfl, rfl⟩ := H
 go_enter Try.func19, Try.ntmps19
 go_wp2_with (first | ((with_reducible refine gate_dst (N := 2) rfl ?_); refine bx 2 #[.int .i64 a0_0, .slice A0_1 l0_1.length c0_1, .slice A0_2 l0_2.length c0_2] 28 ?_; intro gb363 hg w6 hbox hb; have BK363 := zA (hbox); have GW363 := gq HB hg; have GE363 := gq HB hg; replace HB := xH HB hb; have := geI GE363; clear hb hbox hg; have hcz7_0 := bc BK363 0; have hcz7_1 := bc BK363 1; have hcz7_2 := bc BK363 2; have hfz7_0 := bf BK363 0; have hfz7_1 := bf BK363 1; have hfz7_2 := bf BK363 2) | ((with_reducible refine gate_callee (f := 46) rfl ?_); refine gL (some 12) Try.func46 #[.agg #[.int .i64 a0_0, .slice A0_1 l0_1.length c0_1, .slice A0_2 l0_2.length c0_2], .int .i64 a1, .int .i64 0, .int .i64 (l0_1.length : Int)] ?_; (with_reducible refine (spec_l03Code.calls k a0_0 _ _ l0_1 _ _ l0_2 a1 0 (l0_1.length : Int) t364 _ ?side1 ?side2 ?side3 ?side4 A3.out).mono ?_); (case side1 => exact uC ((Kd.C_below HR0_1.out HB.out))); (case side2 => exact HC0_1.out); (case side3 => exact uC ((Kd.C_below HR0_2.out HB.out))); (case side4 => exact HC0_2.out); rintro e w8 ⟨rfl, hb⟩; refine ⟨_, rfl, ?_⟩; replace BK363 := xB BK363 hb; replace HB := xH HB hb; (try clear hb); (try clear hb2); (try clear hk); (try clear hi); have hcz9_0 := bc BK363 0; have hcz9_1 := bc BK363 1; have hcz9_2 := bc BK363 2; have hfz9_0 := bf BK363 0; have hfz9_1 := bf BK363 1; have hfz9_2 := bf BK363 2) | ((with_reducible refine gate_callee (f := 52) rfl ?_); refine gL (some 18) Try.func52 #[.agg #[.int .i64 a0_0, .slice A0_1 l0_1.length c0_1, .slice A0_2 l0_2.length c0_2], .int .i64 a1] ?_; (with_reducible refine (spec_l03Second.calls k a0_0 _ _ l0_1 _ _ l0_2 a1 t365 _ ?side1 ?side2 ?side3 ?side4 A5.out).mono ?_); (case side1 => exact uC ((Kd.C_below HR0_1.out HB.out))); (case side2 => exact HC0_1.out); (case side3 => exact uC ((Kd.C_below HR0_2.out HB.out))); (case side4 => exact HC0_2.out); rintro e w10 ⟨v366, rfl, ho0, hb⟩; refine ⟨_, rfl, ?_⟩; have HO367 := zA (Kd.R_lower ho0 (below_size (uH HB.out))); replace BK363 := xB BK363 hb; replace HB := xH HB hb; (try clear hb); (try clear hb2); (try clear hk); (try clear hi); (try clear ho0)))
 go_ret2
 exact ⟨_, by first | rfl | (simp [errW_none, errW_some] <;> rfl) | (simp [*, errW_none, errW_some] <;> rfl), uR HO367.out, uH HB.out⟩
/- The rows of rows that this function makes are the call's own, the inner ones too; turned out of the printed walk. No condition beside its own. -/
set_option maxHeartbeats 8000000 in
set_option maxRecDepth 100000 in
theorem impl_Jacobi_associated.callsR (k : Nat) (a0_0 : Int) (A0_1 : Option Addr) (c0_1 : Nat) (l0_1 : List Int) (A0_2 : Option Addr) (c0_2 : Nat) (l0_2 : List Int) (r : List (List Int)) (w : World) (hr0_1 : Kd.C (Kd.int .i64) w A0_1 l0_1.length l0_1) (hc0_1 : l0_1.length ≤ c0_1) (hr0_2 : Kd.C (Kd.int .i64) w A0_2 l0_2.length l0_2) (hc0_2 : l0_2.length ≤ c0_2) (h : impl_Jacobi_associated.f k a0_0 l0_1 l0_2 = some r) :
  Calls Try.prog 53 #[.agg #[.int .i64 a0_0, .slice A0_1 l0_1.length c0_1, .slice A0_2 l0_2.length c0_2]] w fun e w' => ∃ v0_ : Value, e = .returned (v0_) ∧ Kd.R (Kd.slice 2 (Kd.int .i64)) 22 w' w.heap.size (fun k_ => (w.heap.size ≤ k_)) v0_ r ∧ Below w.heap.size w w' := by
 have hu28 := Try.underlying28
 have HR0_1 := zA hr0_1
 have HC0_1 := zA hc0_1
 clear hr0_1 hc0_1
 have HR0_2 := zA hr0_2
 have HC0_2 := zA hc0_2
 clear hr0_2 hc0_2
 have HB := zA (Below.refl w.heap.size w)
 have H : (impl_Jacobi_associated.l0 k (([[], (([1] : List Int))] : List (List Int))) 1 a0_0 l0_1 l0_2) = some r := h
 clear h
 obtain ⟨y369, hy369⟩ : ∃ y_ : List Int, y_ = (([1] : List Int)) := ⟨_, rfl⟩
 replace H : (impl_Jacobi_associated.l0 k (([[], y369] : List (List Int))) 1 a0_0 l0_1 l0_2) = some r := by first | (rw [hy369]; with_reducible exact H) | (have H2_ := (Option.bind_some _ _).symm.trans H; rw [hy369]; with_reducible exact H2_) | (have H2_ := (Option.bind_some _ _).symm.trans H; with_reducible exact H2_) | with_reducible exact H | (rw [hy369]; exact H) | exact H
 have Ny369 := zA hy369
 clear hy369
 obtain ⟨y372, hy372⟩ : ∃ y_ : List (List Int), y_ = (([[], y369] : List (List Int))) := ⟨_, rfl⟩
 replace H : (impl_Jacobi_associated.l0 k y372 1 a0_0 l0_1 l0_2) = some r := by first | (rw [hy372]; with_reducible exact H) | (have H2_ := (Option.bind_some _ _).symm.trans H; rw [hy372]; with_reducible exact H2_) | (have H2_ := (Option.bind_some _ _).symm.trans H; with_reducible exact H2_) | with_reducible exact H | (rw [hy372]; exact H) | exact H
 have Ny372 := zA hy372
 clear hy372
 have H' := zA H
 clear H
 go_enter Try.func53, Try.ntmps53
 go_wp2_with (first | ((with_reducible refine gate_dst (N := 1) rfl ?_); refine box_event ?hg (N := 1) ?hd (cs := #[.int .i64 a0_0, .slice A0_1 l0_1.length c0_1, .slice A0_2 l0_2.length c0_2]) (t := 28) ?hr ?_; (case hd => rfl); (case hg => rfl); (case hr => first | (go_simp; done) | (go_simp; rfl)); intro gb368 hg w2 hbox hb; have n0_ := xH HB hb; have n1_ := zA (hbox); have n2_ := zA ((by rw [hg]; exact (below_size (uH HB.out)) : w.heap.size ≤ gb368)); have n3_ := zA ((by rw [hg]; exact (below_size (uH HB.out)) : w.heap.size ≤ gb368)); clear HB; have HB := n0_; have BK368 := n1_; have GW368 := n2_; have GE368 := n3_; have := geI GE368; clear n0_ n1_ n2_ n3_ hb hbox hg) | ((with_reducible refine gate_dst (N := 5) rfl ?_); refine Kd.R_lit (Kd.int .i64) _ 2 ?hg (N := 5) ?hd (xs := ([1] : List Int)) (inner := [.int .i64 1]) (ok := fun _ => True) (okp := fun _ => True) ?hr ?hp (fun _ hk => hk) trivial (Below.refl _ _) (Nat.le_refl _) (by simp) ?_; (case hd => rfl); (case hg => rfl); (case hr => first | (go_simp; done) | (go_simp; rfl)); (case hp => exact (Reps.one (show Kd.M (Kd.int .i64) _ _ _ 1 [.int .i64 1] from rfl) (Reps.none _ _))); intro v370 w3 ho4 hb hg_ hnew_; clear hg_ hnew_; (first | rw [← Ny369.out] at ho4 | (simp only [Int.reduceToNat] at ho4; rw [← Ny369.out] at ho4)); have n0_ := zA (Kd.R_lower (Kd.R_newM (M := fun k_ => (w.heap.size ≤ k_)) ho4 (below_size (uH HB.out)) (fun k_ h_ => h_)) (below_size (uH HB.out))); have n1_ := xB BK368 hb; have n2_ := xH HB hb; clear BK368 HB; have HO371 := n0_; have BK368 := n1_; have HB := n2_; clear n0_ n1_ n2_ hb ho4; obtain ⟨Ao5, co5, eo5⟩ := Kd.R_slice HO371.out; subst eo5) | ((with_reducible refine gate_dst (N := 6) rfl ?_); refine Kd.R_lit (Kd.slice 2 (Kd.int .i64)) w.heap.size 22 ?hg (N := 6) ?hd (xs := ([[], y369] : List (List Int))) (inner := [.slice none 0 0, .slice Ao5 y369.length co5]) (ok := (fun k_ => (w.heap.size ≤ k_) ∧ k_ ≠ gb368)) (okp := (fun k_ => (w.heap.size ≤ k_) ∧ k_ ≠ gb368)) ?hr ?hp (fun _ hk => hk) ((show ∀ k_, w3.heap.size ≤ k_ → (fun k_ => (w.heap.size ≤ k_) ∧ k_ ≠ gb368) k_ from fun k_ hk => ⟨(Nat.le_trans (below_size (uH HB.out)) hk), Kd.freshB (g := gb368) (o := .cells #[.int .i64 a0_0, .slice A0_1 l0_1.length c0_1, .slice A0_2 l0_2.length c0_2] 28 (0, 0)) (uB BK368.out) k_ hk⟩) _ (Nat.le_refl _)) (Below.refl _ _) (below_size (uH HB.out)) (by simp) ?_; (case hd => rfl); (case hg => rfl); (case hr => first | (go_simp; done) | (go_simp; rfl)); (case hp => exact (Reps.one (show Kd.M (Kd.slice 2 (Kd.int .i64)) _ _ _ [] [.slice none 0 0] from ⟨_, rfl, Kd.R_nil _ _ _ _ _⟩) (Reps.one (show Kd.M (Kd.slice 2 (Kd.int .i64)) _ _ _ y369 [.slice Ao5 y369.length co5] from ⟨_, rfl, (Kd.R_mono (ok' := (fun k_ => (w.heap.size ≤ k_) ∧ k_ ≠ gb368)) (Kd.R_types (HO371.out) BK368.out (by decide)) (fun k_ hk => ⟨hk.1.1, hk.2⟩))⟩) (Reps.none _ _)))); intro v373 w6 ho7 hb hg_ hnew_; replace hb := (Below.refl _ _).grown hg_ (Nat.le_refl _) (fun k e => by simp at e); clear hg_ hnew_; (first | rw [← Ny372.out] at ho7 | (simp only [Int.reduceToNat] at ho7; rw [← Ny372.out] at ho7)); have n0_ := zA (ho7); have n1_ := xB BK368 hb; have n2_ := xH HB hb; clear BK368 HB HO371; have HO374 := n0_; have BK368 := n1_; have HB := n2_; clear n0_ n1_ n2_ hb ho7))
 go_loopg [3, 4] k (fun kq v3 v4 w' => ∃ (x3_1 : List (List Int)) (x4_1 : Int), v4 = .int .i64 x4_1 ∧ Aside0 (impl_Jacobi_associated.l0 kq x3_1 x4_1 a0_0 l0_1 l0_2 = some r) ∧ Aside0 (kq ≤ k) ∧ Aside0 (Kd.R (Kd.slice 2 (Kd.int .i64)) 22 w' w.heap.size (fun k_ => (w.heap.size ≤ k_) ∧ k_ ≠ gb368) v3 x3_1) ∧ Aside0 (w'.heap[gb368]? = some (.cells #[.int .i64 a0_0, (.slice A0_1 l0_1.length c0_1), (.slice A0_2 l0_2.length c0_2)] 28 (0, 0))) ∧ Aside0 (Below w.heap.size w w'))
 case atStart => exact ⟨(y372), (1), (by first | rfl | (simp; done) | (simp [*]; done)), H', ⟨Nat.le_refl _⟩, ⟨by (with_reducible repeat (first | apply Kd.R_alloc | apply Kd.R_drewN | apply Kd.R_drew)); exact HO374.out⟩, ⟨uB BK368.out⟩, ⟨uH HB.out⟩⟩
 case round =>
  clear H'
  try clear p2
  try clear c5
  obtain ⟨x3_1, x4_1, rfl, HA, HK1, HO_3, BK368, HB⟩ := hrel
  cases gk with
  | zero => exact absurd HA.out (by simp [impl_Jacobi_associated.l0])
  | succ k1 =>
   have H := HA.out
   clear HA
   simp only [impl_Jacobi_associated.l0] at H
   by_cases c8 : x4_1 < (l0_1.length : Int)
   ·rw [if_pos c8] at H
    have c8b0 : decide (x4_1 < (l0_1.length : Int)) = true := decide_eq_true c8
    clear c8
    replace H := Option.bind_eq_some_iff.mp H
    obtain ⟨t375, A90, H⟩ := H
    replace H : (if 0 ≤ x4_1 then (if x4_1 < (l0_2.length : Int) then (if x4_1 < (x3_1.length : Int) then (if 0 ≤ (wrap64 (x4_1 - 1)) then (if (wrap64 (x4_1 - 1)) < (x3_1.length : Int) then ((impl_field_next.f k1 t375 (rd l0_1 x4_1) (rd l0_2 x4_1) (rd_L1 x3_1 x4_1) (rd_L1 x3_1 (wrap64 (x4_1 - 1)))).bind fun t380 => (if x3_1.length < 5864062014805 then (impl_Jacobi_associated.l0 k1 (x3_1 ++ [t380]) (wrap64 (x4_1 + 1)) a0_0 l0_1 l0_2) else (none))) else (none)) else (none)) else (none)) else (none)) else (none)) = some r := H
    have A9 := zA A90
    clear A90
    by_cases c10 : 0 ≤ x4_1
    ·rw [if_pos c10] at H
     have c10b0 : decide (0 ≤ x4_1) = true := decide_eq_true c10
     clear c10
     by_cases c11 : x4_1 < (l0_2.length : Int)
     ·rw [if_pos c11] at H
      have c11b0 : decide (x4_1 < (l0_2.length : Int)) = true := decide_eq_true c11
      clear c11
      by_cases c12 : x4_1 < (x3_1.length : Int)
      ·rw [if_pos c12] at H
       have c12b0 : decide (x4_1 < (x3_1.length : Int)) = true := decide_eq_true c12
       clear c12
       obtain ⟨ji13, hji13⟩ : ∃ j_ : Int, (wrap64 (x4_1 - 1)) = j_ := ⟨_, rfl⟩
       replace H : (if 0 ≤ (ji13) then (if (ji13) < (x3_1.length : Int) then ((impl_field_next.f k1 t375 (rd l0_1 x4_1) (rd l0_2 x4_1) (rd_L1 x3_1 x4_1) (rd_L1 x3_1 (ji13))).bind fun t380 => (if x3_1.length < 5864062014805 then (impl_Jacobi_associated.l0 k1 (x3_1 ++ [t380]) (wrap64 (x4_1 + 1)) a0_0 l0_1 l0_2) else (none))) else (none)) else (none)) = some r := by first | (rw [hji13] at H; exact H) | (simp only [hji13] at H ⊢; exact H)
       (try rw [hji13] at A9)
       have hji13w : (IntKind.i64.wrap (x4_1 - 1)) = ji13 := (i64_w _).trans hji13
       by_cases c14 : 0 ≤ (ji13)
       ·rw [if_pos c14] at H
        have c14b0 : decide (0 ≤ (ji13)) = true := decide_eq_true c14
        clear c14
        by_cases c15 : (ji13) < (x3_1.length : Int)
        ·rw [if_pos c15] at H
         have c15b0 : decide ((ji13) < (x3_1.length : Int)) = true := decide_eq_true c15
         clear c15
         replace H := Option.bind_eq_some_iff.mp H
         obtain ⟨t380, A160, H⟩ := H
         replace H : (if x3_1.length < 5864062014805 then (impl_Jacobi_associated.l0 k1 (x3_1 ++ [t380]) (wrap64 (x4_1 + 1)) a0_0 l0_1 l0_2) else (none)) = some r := H
         have A16 := zA A160
         clear A160
         by_cases c17 : x3_1.length < 5864062014805
         ·rw [if_pos c17] at H
          have LMc17 := zA c17
          clear c17
          obtain ⟨y383, hy383⟩ : ∃ y_ : List (List Int), y_ = (x3_1 ++ [t380]) := ⟨_, rfl⟩
          replace H : (impl_Jacobi_associated.l0 k1 y383 (wrap64 (x4_1 + 1)) a0_0 l0_1 l0_2) = some r := by first | (rw [hy383]; with_reducible exact H) | (have H2_ := (Option.bind_some _ _).symm.trans H; rw [hy383]; with_reducible exact H2_) | (have H2_ := (Option.bind_some _ _).symm.trans H; with_reducible exact H2_) | with_reducible exact H | (rw [hy383]; exact H) | exact H
          have Ny383 := zA hy383
          clear hy383
          have H' := zA H
          clear H
          have hcz18_0 : wr.cell? ⟨gb368, 0, none⟩ = some (.int .i64 a0_0) := (blk_cell BK368.out 0).trans rfl
          have hcz18_1 : wr.cell? ⟨gb368, 1, none⟩ = some (.slice A0_1 l0_1.length c0_1) := (blk_cell BK368.out 1).trans rfl
          have hcz18_2 : wr.cell? ⟨gb368, 2, none⟩ = some (.slice A0_2 l0_2.length c0_2) := (blk_cell BK368.out 2).trans rfl
          have hfz18_0 := blk_frozen BK368.out 0
          have hfz18_1 := blk_frozen BK368.out 1
          have hfz18_2 := blk_frozen BK368.out 2
          try go_wp2
          have n0_ := zA (Kd.R_drew HO_3.out)
          have n1_ := zA (blk_drew BK368.out)
          have n2_ := zA (below_drew1 HB.out)
          clear HO_3 BK368 HB
          have HO_3 := n0_; have BK368 := n1_; have HB := n2_
          clear n0_ n1_ n2_
          have p376 : 0 ≤ (x4_1 : Int) := of_decide_eq_true (by first | (with_reducible assumption) | assumption)
          have q376 : x4_1 < (l0_1.length : Int) := of_decide_eq_true (by first | (with_reducible assumption) | assumption)
          obtain ⟨ad376, e376, hx376_0⟩ := Kd.at_int HR0_1.out x4_1 p376 q376
          have hw376_0 := hx376_0
          cases e376
          replace hx376_0 := (HB.out.cell (World.block_lt_of_cell? w _ hx376_0)).trans hx376_0
          replace p376 := eq_true p376
          replace q376 := eq_true q376
          have p377 : 0 ≤ (x4_1 : Int) := of_decide_eq_true (by first | (with_reducible assumption) | assumption)
          have q377 : x4_1 < (l0_2.length : Int) := of_decide_eq_true (by first | (with_reducible assumption) | assumption)
          obtain ⟨ad377, e377, hx377_0⟩ := Kd.at_int HR0_2.out x4_1 p377 q377
          have hw377_0 := hx377_0
          cases e377
          replace hx377_0 := (HB.out.cell (World.block_lt_of_cell? w _ hx377_0)).trans hx377_0
          replace p377 := eq_true p377
          replace q377 := eq_true q377
          obtain ⟨Ao20, co20, eo20⟩ := Kd.R_slice HO_3.out
          (first | subst eo20 | (injection eo20 with f1_ f2_ f3_; have f4_ := f1_.symm; have f5_ := f3_.symm; clear f1_ f2_ f3_; subst f4_; subst f5_))
          have p378 : 0 ≤ (x4_1 : Int) := of_decide_eq_true (by first | (with_reducible assumption) | assumption)
          have q378 : x4_1 < (x3_1.length : Int) := of_decide_eq_true (by first | (with_reducible assumption) | assumption)
          obtain ⟨ad378, A378_0, c378_0, e378, hx378_0, hl378_0, hi378_0⟩ := at_L1 (Kd.R_reads' HO_3.out).2.2 x4_1 p378 q378
          cases e378
          obtain ⟨ce378, hce378, hMe378, hcc378⟩ := Kd.N_get (Kd.R_N HO_3.out) [] x4_1 p378 (by first | exact q378 | exact of_decide_eq_true (by first | (with_reducible assumption) | assumption) | (have e_ := (Kd.R_reads' HO_3.out).1; omega))
          obtain ⟨ua378_0, uc378_0, rfl, ul378_0, ge378_0⟩ := Kd.FK_slice_open hMe378
          have hv378_0 := hcc378 0 _ rfl
          rw [Nat.add_zero, show ((Kd.slice 2 (Kd.int .i64))).sz = 1 from rfl, Nat.mul_one] at hv378_0
          replace hv378_0 := Option.some.inj (hv378_0.symm.trans hx378_0)
          injection hv378_0 with hva_ hvn_ hvc_
          rw [hva_] at ge378_0
          rw [hvc_] at ul378_0
          have HL378_0 := zA (show Kd.V (Kd.int .i64) 2 _ w.heap.size _ _ (rd_L1 x3_1 x4_1) from Kd.V_mk ul378_0 ge378_0)
          clear hva_ hvn_ hvc_ ge378_0 ul378_0
          clear hcc378 hce378
          have HR378_0 := zA hi378_0
          have HC378_0 := zA hl378_0
          clear hi378_0 hl378_0
          replace p378 := eq_true p378
          replace q378 := eq_true q378
          have p379 : 0 ≤ ((ji13) : Int) := of_decide_eq_true (by first | (with_reducible assumption) | assumption)
          have q379 : (ji13) < (x3_1.length : Int) := of_decide_eq_true (by first | (with_reducible assumption) | assumption)
          obtain ⟨ad379, A379_0, c379_0, e379, hx379_0, hl379_0, hi379_0⟩ := at_L1 (Kd.R_reads' HO_3.out).2.2 (ji13) p379 q379
          obtain rfl : ad378 = ad379 := (by injection e379)
          obtain ⟨ce379, hce379, hMe379, hcc379⟩ := Kd.N_get (Kd.R_N HO_3.out) [] (ji13) p379 (by first | exact q379 | exact of_decide_eq_true (by first | (with_reducible assumption) | assumption) | (have e_ := (Kd.R_reads' HO_3.out).1; omega))
          obtain ⟨ua379_0, uc379_0, rfl, ul379_0, ge379_0⟩ := Kd.FK_slice_open hMe379
          have hv379_0 := hcc379 0 _ rfl
          rw [Nat.add_zero, show ((Kd.slice 2 (Kd.int .i64))).sz = 1 from rfl, Nat.mul_one] at hv379_0
          replace hv379_0 := Option.some.inj (hv379_0.symm.trans hx379_0)
          injection hv379_0 with hva_ hvn_ hvc_
          rw [hva_] at ge379_0
          rw [hvc_] at ul379_0
          have HL379_0 := zA (show Kd.V (Kd.int .i64) 2 _ w.heap.size _ _ (rd_L1 x3_1 (ji13)) from Kd.V_mk ul379_0 ge379_0)
          clear hva_ hvn_ hvc_ ge379_0 ul379_0
          clear hcc379 hce379
          have HR379_0 := zA hi379_0
          have HC379_0 := zA hl379_0
          clear hi379_0 hl379_0
          replace p379 := eq_true p379
          replace q379 := eq_true q379
          refine start_ (n := 26) (S := fun w' => w'.cell? ⟨gb368, 0, none⟩ = some (.int .i64 a0_0) ∧ w'.cell? ⟨gb368, 1, none⟩ = some (.slice (some ad376) l0_1.length c0_1) ∧ w'.cell? ⟨gb368, 2, none⟩ = some (.slice (some ad377) l0_2.length c0_2) ∧ w'.cell? (ad376.add (x4_1).toNat) = some (.int .i64 (rd l0_1 x4_1)) ∧ w'.cell? (ad377.add (x4_1).toNat) = some (.int .i64 (rd l0_2 x4_1)) ∧ w'.cell? (ad378.add (x4_1).toNat) = some (.slice A378_0 (rd_L1 x3_1 x4_1).length c378_0) ∧ w'.cell? (ad378.add ((ji13)).toNat) = some (.slice A379_0 (rd_L1 x3_1 (ji13)).length c379_0)) (ds := [23, 24]) #[false, false, false, false, false, false, false, false, false, false, false, false, false, false, false, false, false, false, false, false, false, false, false, false, false, false] (by kernel_rfl) rfl rfl ⟨(blk_cell BK368.out 0).trans rfl, (blk_cell BK368.out 1).trans rfl, (blk_cell BK368.out 2).trans rfl, ((HB.out.cell (World.block_lt_of_cell? w _ hw376_0)).trans hw376_0), ((HB.out.cell (World.block_lt_of_cell? w _ hw377_0)).trans hw377_0), hx378_0, hx379_0⟩ (fun hHeld => ?_); refine with_tabW impl_Jacobi_associated.tab5 impl_Jacobi_associated.bits5 (fun HT_ HW_ => ?_)
          generalize wr.drew = w19 at HO_3 BK368 HB HL378_0 HL379_0 HR378_0 HR379_0 hx376_0 hx377_0 hx378_0 hx379_0 hHeld ⊢
          refine pu_ 0 14 (bl 26 1) HT_ ?_
          refine pu_ 3 17 (bl 26 9) HT_ ?_
          refine pu_ 5 19 (bl 26 41) HT_ ?_
          refine pu_ 8 22 (bl 26 297) HT_ ?_
          refine pu_ 10 24 (bl 26 1321) HT_ ?_
          refine pu_ 13 27 (bl 26 9513) HT_ ?_
          refine pu_ 14 28 (bl 26 25897) HT_ ?_
          refine pu_ 15 29 (bl 26 58665) HT_ ?_
          refine pu_ 17 31 (bl 26 189737) HT_ ?_
          refine pu_ 18 32 (bl 26 451881) HT_ ?_
          refine pu_ 19 33 (bl 26 976169) HT_ ?_
          refine pu_ 20 34 (bl 26 2024745) HT_ ?_
          refine ta_ 1 15 (bl 26 2024747) HT_ HW_ hHeld ?_
          refine ta_ 4 18 (bl 26 2024763) HT_ HW_ hHeld ?_
          refine pu_ 6 20 (bl 26 2024827) HT_ ?_
          refine ta_ 7 21 (bl 26 2024955) HT_ HW_ hHeld ?_
          refine ta_ 9 23 (bl 26 2025467) HT_ HW_ hHeld ?_
          refine pu_ 11 25 (bl 26 2027515) HT_ ?_
          refine ta_ 12 26 (bl 26 2031611) HT_ HW_ hHeld ?_
          refine ta_ 16 30 (bl 26 2097147) HT_ HW_ hHeld ?_
          refine ta_ 21 35 (bl 26 4194299) HT_ HW_ hHeld ?_
          refine on_ 2 (some 16) (bl 26 4194303) HT_ (fun K hK => ?_)
          refine goes_ Try.func64 (by kernel_rfl) rfl #[.agg #[.int .i64 a0_0, .slice (some ad376) l0_1.length c0_1, .slice (some ad377) l0_2.length c0_2]] (by rfl) rfl rfl (by (try simp only [la, lb, lc]); first | done | rfl | (simp only [ld, le]; rfl)) ?_
          with_reducible refine (impl_Jacobi_field.calls a0_0 _ _ l0_1 _ _ l0_2 t375 _ ?side1 ?side2 ?side3 ?side4 A9.out).mono ?_
          (case side1 => exact uC ((Kd.C_below HR0_1.out HB.out)))
          (case side2 => exact HC0_1.out)
          (case side3 => exact uC ((Kd.C_below HR0_2.out HB.out)))
          (case side4 => exact HC0_2.out)
          rintro e w21 ⟨rfl, hb⟩
          have HS5_ := (hb.cell (World.block_lt_of_cell? _ _ (hHeld.2.2.2.2.2.1))).trans (hHeld.2.2.2.2.2.1)
          have HS6_ := (hb.cell (World.block_lt_of_cell? _ _ (hHeld.2.2.2.2.2.2))).trans (hHeld.2.2.2.2.2.2)
          refine ⟨_, rfl, ?_⟩
          have n0_ := zA (Kd.R_below (by (with_reducible repeat (first | apply Kd.R_alloc | apply Kd.R_drewN | apply Kd.R_drew)); exact HO_3.out) hb)
          have n1_ := zA (Kd.V_below (by (with_reducible repeat (first | apply Kd.V_alloc | apply Kd.V_drewN | apply Kd.V_drew)); exact HL378_0.out) hb)
          have n2_ := zA (Kd.V_below (by (with_reducible repeat (first | apply Kd.V_alloc | apply Kd.V_drewN | apply Kd.V_drew)); exact HL379_0.out) hb)
          have n3_ := xB BK368 hb
          have n4_ := zA (Kd.C_below (by repeat (first | (with_reducible exact HR378_0.out) | (with_reducible refine Kd.C_alloc ?_ _) | (with_reducible refine Kd.C_drewN ?_ _) | (with_reducible refine Kd.C_drew ?_) | exact HR378_0.out)) hb)
          have n5_ := zA (Kd.C_below (by repeat (first | (with_reducible exact HR379_0.out) | (with_reducible refine Kd.C_alloc ?_ _) | (with_reducible refine Kd.C_drewN ?_ _) | (with_reducible refine Kd.C_drew ?_) | exact HR379_0.out)) hb)
          have n6_ := xH HB hb
          clear HO_3 HL378_0 HL379_0 BK368 HR378_0 HR379_0 HB
          have HO_3 := n0_; have HL378_0 := n1_; have HL379_0 := n2_; have BK368 := n3_; have HR378_0 := n4_; have HR379_0 := n5_; have HB := n6_
          clear n0_ n1_ n2_ n3_ n4_ n5_ n6_
          (try clear hb); (try clear hb2); (try clear hk); (try clear hi)
          refine hK.out _ _ ⟨(blk_cell BK368.out 0).trans rfl, (blk_cell BK368.out 1).trans rfl, (blk_cell BK368.out 2).trans rfl, ((HB.out.cell (World.block_lt_of_cell? w _ hw376_0)).trans hw376_0), ((HB.out.cell (World.block_lt_of_cell? w _ hw377_0)).trans hw377_0), HS5_, HS6_⟩ (fun hHeld => ?_)
          clear hK K
          refine no_ 16 ?_
          refine on_ 22 (some 36) (bl 26 8388607) HT_ (fun K hK => ?_)
          refine goes_ Try.func84 (by kernel_rfl) rfl #[.int .i64 t375, .int .i64 (rd l0_1 x4_1), .int .i64 (rd l0_2 x4_1), .slice A378_0 (rd_L1 x3_1 x4_1).length c378_0, .slice A379_0 (rd_L1 x3_1 (ji13)).length c379_0] (by rfl) rfl rfl (by (try simp only [la, lb, lc]); first | done | (simp only [hji13]; rfl) | rfl | (simp only [ld, le]; rfl)) ?_
          with_reducible refine (impl_field_next.calls k1 t375 (rd l0_1 x4_1) (rd l0_2 x4_1) _ _ (rd_L1 x3_1 x4_1) _ _ (rd_L1 x3_1 (ji13)) t380 _ ?side1 ?side2 ?side3 ?side4 A16.out).mono ?_
          (case side1 => repeat (first | exact (by repeat (first | (with_reducible exact HR378_0.out) | (with_reducible refine Kd.C_alloc ?_ _) | (with_reducible refine Kd.C_drewN ?_ _) | (with_reducible refine Kd.C_drew ?_) | exact HR378_0.out)) | (with_reducible refine Kd.C_alloc ?_ _) | (with_reducible refine Kd.C_drewN ?_ _) | (with_reducible refine Kd.C_drew ?_)))
          (case side2 => exact HC378_0.out)
          (case side3 => repeat (first | exact (by repeat (first | (with_reducible exact HR379_0.out) | (with_reducible refine Kd.C_alloc ?_ _) | (with_reducible refine Kd.C_drewN ?_ _) | (with_reducible refine Kd.C_drew ?_) | exact HR379_0.out)) | (with_reducible refine Kd.C_alloc ?_ _) | (with_reducible refine Kd.C_drewN ?_ _) | (with_reducible refine Kd.C_drew ?_)))
          (case side4 => exact HC379_0.out)
          rintro e w22 ⟨v381, rfl, ho0, hb⟩
          have HS5_ := (hb.cell (World.block_lt_of_cell? _ _ (hHeld.2.2.2.2.2.1))).trans (hHeld.2.2.2.2.2.1)
          have HS6_ := (hb.cell (World.block_lt_of_cell? _ _ (hHeld.2.2.2.2.2.2))).trans (hHeld.2.2.2.2.2.2)
          refine ⟨_, rfl, ?_⟩
          have n0_ := zA (Kd.R_elder' (by (with_reducible repeat (first | apply Kd.R_alloc | apply Kd.R_drewN | apply Kd.R_drew)); exact HO_3.out) (Kd.R_base ho0) hb)
          have n1_ := zA (Kd.V_elder' (by (with_reducible repeat (first | apply Kd.V_alloc | apply Kd.V_drewN | apply Kd.V_drew)); exact HL378_0.out) (Kd.R_base ho0) hb)
          have n2_ := zA (Kd.V_elder' (by (with_reducible repeat (first | apply Kd.V_alloc | apply Kd.V_drewN | apply Kd.V_drew)); exact HL379_0.out) (Kd.R_base ho0) hb)
          have n3_ := zA (Kd.R_lower (Kd.R_newM (M := fun k_ => (w.heap.size ≤ k_)) ho0 (below_size (uH HB.out)) (fun k_ h_ => h_)) (below_size (uH HB.out)))
          have n4_ := xB BK368 hb
          have n5_ := zA (Kd.C_below (by repeat (first | (with_reducible exact HR378_0.out) | (with_reducible refine Kd.C_alloc ?_ _) | (with_reducible refine Kd.C_drewN ?_ _) | (with_reducible refine Kd.C_drew ?_) | exact HR378_0.out)) hb)
          have n6_ := zA (Kd.C_below (by repeat (first | (with_reducible exact HR379_0.out) | (with_reducible refine Kd.C_alloc ?_ _) | (with_reducible refine Kd.C_drewN ?_ _) | (with_reducible refine Kd.C_drew ?_) | exact HR379_0.out)) hb)
          have n7_ := xH HB hb
          clear HO_3 HL378_0 HL379_0 BK368 HR378_0 HR379_0 HB
          have HO_3 := n0_; have HL378_0 := n1_; have HL379_0 := n2_; have HO382 := n3_; have BK368 := n4_; have HR378_0 := n5_; have HR379_0 := n6_; have HB := n7_
          clear n0_ n1_ n2_ n3_ n4_ n5_ n6_ n7_
          (try clear hb); (try clear hb2); (try clear hk); (try clear hi); (try clear ho0)
          obtain ⟨Ao24, co24, eo24⟩ := Kd.R_slice HO382.out
          (first | subst eo24 | (injection eo24 with f1_ f2_ f3_; have f4_ := f1_.symm; have f5_ := f3_.symm; clear f1_ f2_ f3_; subst f4_; subst f5_))
          refine hK.out _ _ ⟨(blk_cell BK368.out 0).trans rfl, (blk_cell BK368.out 1).trans rfl, (blk_cell BK368.out 2).trans rfl, ((HB.out.cell (World.block_lt_of_cell? w _ hw376_0)).trans hw376_0), ((HB.out.cell (World.block_lt_of_cell? w _ hw377_0)).trans hw377_0), HS5_, HS6_⟩ (fun hHeld => ?_)
          clear hK K
          refine no_ 36 ?_
          refine last_ (i := 23) (N := some 37) (bl 26 16777215) rfl rfl (one_of HT_.out (by kernel_rfl)) (by decide) (fun K hK => ?_)
          refine value_ (w1 := ?_) (v := ?_) (by rfl) rfl ?_ ?_
          rotate_left 2
          ·go_simp
           constructor
           ·rfl
           ·rfl
          refine hK.out _ _ ?_
          clear hK K
          refine no_ 37 ?_
          refine last_ (i := 24) (N := some 38) (bl 26 33554431) rfl rfl (one_of HT_.out (by kernel_rfl)) (by decide) (fun K hK => ?_)
          refine Kd.R_append_step (Kd.slice 2 (Kd.int .i64)) (w0 := w) w.heap.size (by rfl) (.tmp 14) (.tmp 37) 35 22 (.slice none 0 0) 24 rfl Try.underlying35 info22 rfl (by decide) (by omega) (.slice (some ad378) x3_1.length co20) x3_1 t380 [.slice Ao24 t380.length co24] (fun k_ => (w.heap.size ≤ k_) ∧ k_ ≠ gb368) (fun k_ => ((fun k_ => (w.heap.size ≤ k_) ∧ k_ ≠ gb368)) k_ ∧ some k_ ≠ (.slice (some ad378) x3_1.length co20 : Value).ownBlock) rfl rfl ?aP (fun _ hk => hk) ?aF ?aO ?aB ?aS ?aL ?_
          (case aP => exact ⟨_, rfl, (Kd.R_mono (ok' := (fun k_ => ((fun k_ => (w.heap.size ≤ k_) ∧ k_ ≠ gb368)) k_ ∧ some k_ ≠ (.slice (some ad378) x3_1.length co20 : Value).ownBlock)) (Kd.R_types (Kd.R_apart' (HO382.out) (Kd.R_typed HO_3.out) (by decide)) BK368.out (by decide)) (fun k_ hk => ⟨⟨hk.1.1.1, hk.2⟩, hk.1.2⟩))⟩)
          (case aB => exact (uH HB.out))
          (case aF => exact (fun k_ hk => ⟨(Nat.le_trans (below_size (uH HB.out)) hk), Kd.freshB (g := gb368) (o := .cells #[.int .i64 a0_0, .slice (some ad376) l0_1.length c0_1, .slice (some ad377) l0_2.length c0_2] 28 (0, 0)) (uB BK368.out) k_ hk⟩))
          (case aO => exact (by (with_reducible repeat (first | apply Kd.R_alloc | apply Kd.R_drewN | apply Kd.R_drew)); exact Kd.R_mono HO_3.out (fun _ hk => ⟨hk.1.1, hk.1.2⟩)))
          (case aS => exact (below_size (uH HB.out)))
          (case aL => have := LMc17.out; omega)
          intro v384 w23 ho hb hg hat
          rw [← Ny383.out] at ho
          have n0_ := zA (blk_grown (g := gb368) (o := .cells #[.int .i64 a0_0, .slice (some ad376) l0_1.length c0_1, .slice (some ad377) l0_2.length c0_2] 28 (0, 0)) (uB BK368.out) hg (Kd.R_ne HO_3.out BK368.out (by decide)))
          have n1_ := zA (Kd.V_afterv (ok := (fun k_ => (w.heap.size ≤ k_) ∧ some k_ ≠ (.slice Ao24 t380.length co24 : Value).ownBlock ∧ k_ ≠ gb368)) (by (with_reducible repeat (first | apply Kd.V_alloc | apply Kd.V_drewN | apply Kd.V_drew)); exact Kd.V_mono HL378_0.out (fun _ hk => ⟨⟨hk.1.1.1, ⟨hk.2, hk.1.1.2⟩⟩, hk.1.2⟩)) hg hat)
          have n2_ := zA (Kd.V_afterv (ok := (fun k_ => (w.heap.size ≤ k_) ∧ some k_ ≠ (.slice Ao24 t380.length co24 : Value).ownBlock ∧ k_ ≠ gb368)) (by (with_reducible repeat (first | apply Kd.V_alloc | apply Kd.V_drewN | apply Kd.V_drew)); exact Kd.V_mono HL379_0.out (fun _ hk => ⟨⟨hk.1.1.1, ⟨hk.2, hk.1.1.2⟩⟩, hk.1.2⟩)) hg hat)
          have n3_ := zA (hb)
          have n4_ := zA (ho)
          clear BK368 HL378_0 HL379_0 HB HO_3 HO382
          have BK368 := n0_; have HL378_0 := n1_; have HL379_0 := n2_; have HB := n3_; have HO385 := n4_
          clear n0_ n1_ n2_ n3_ n4_
          clear ho hb hg hat
          refine hK.out _ _ ?_
          clear hK K
          refine no_ 38 ?_
          refine pu_ 25 3 (bl 26 67108863) HT_ ?_
          refine done_ (done_of HT_.out (by kernel_rfl)) ?_
          try go_wp2
          go_roundg k1
          case measure => have := HK1.out; omega
          case rel => exact ⟨(y383), (wrap64 (x4_1 + 1)), (by first | rfl | (simp; done) | (simp [*]; done)), H', ⟨by have := HK1.out; omega⟩, ⟨by (with_reducible repeat (first | apply Kd.R_alloc | apply Kd.R_drewN | apply Kd.R_drew)); exact HO385.out⟩, ⟨uB BK368.out⟩, ⟨uH HB.out⟩⟩
         ·rw [if_neg c17] at H
          exact absurd H (by simp)
        ·rw [if_neg c15] at H
         exact absurd H (by simp)
       ·rw [if_neg c14] at H
        exact absurd H (by simp)
      ·rw [if_neg c12] at H
       exact absurd H (by simp)
     ·rw [if_neg c11] at H
      exact absurd H (by simp)
    ·rw [if_neg c10] at H
     exact absurd H (by simp)
   ·rw [if_neg c8] at H
    have c8b0 : decide (x4_1 < (l0_1.length : Int)) = false := decide_eq_false c8
    clear c8
    obtain rfl := Option.some.inj H
    have hcz25_0 : wr.cell? ⟨gb368, 0, none⟩ = some (.int .i64 a0_0) := (blk_cell BK368.out 0).trans rfl
    have hcz25_1 : wr.cell? ⟨gb368, 1, none⟩ = some (.slice A0_1 l0_1.length c0_1) := (blk_cell BK368.out 1).trans rfl
    have hcz25_2 : wr.cell? ⟨gb368, 2, none⟩ = some (.slice A0_2 l0_2.length c0_2) := (blk_cell BK368.out 2).trans rfl
    have hfz25_0 := blk_frozen BK368.out 0
    have hfz25_1 := blk_frozen BK368.out 1
    have hfz25_2 := blk_frozen BK368.out 2
    go_wp2
    go_ret
    exact ⟨_, by first | rfl | (simp [errW_none, errW_some] <;> rfl) | (simp [*, errW_none, errW_some] <;> rfl), by (with_reducible repeat (first | apply Kd.R_alloc | apply Kd.R_drewN | apply Kd.R_drew)); exact Kd.R_mono HO_3.out (fun _ hk => hk.1), uH HB.out⟩
/-! ### impl_AssociatedOf: function 20 -/
def impl_AssociatedOf.f (k : Nat) (a0_0 : Int) (l0_1 : List Int) (l0_2 : List Int) (a1 : Int) : Option (List Int × Int) := (impl_Jacobi_size.f a0_0 l0_1 l0_2).bind fun t387 => ((impl_within.f a1 0 t387).bind fun t388 => ((impl_jacobiCode.f k a0_0 l0_1 l0_2 t388).bind fun t389 => (if t389 = 0 then ((impl_Jacobi_associated.f k a0_0 l0_1 l0_2).bind fun t390 => (if 0 ≤ a1 then (if a1 < (t390.length : Int) then (some (rd_L1 t390 a1, 0)) else (none)) else (none))) else (some (([] : List Int), t389)))))
theorem impl_AssociatedOf.mono : ∀ a0 a1 a2 a3 k, LeO (impl_AssociatedOf.f k a0 a1 a2 a3) (impl_AssociatedOf.f (k + 1) a0 a1 a2 a3) := by
 intro a0 a1 a2 a3 k
 unfold impl_AssociatedOf.f
 repeat' first
   | (with_reducible exact impl_Jacobi_associated.mono _ _ _ _)
   | (with_reducible exact impl_jacobiCode.mono _ _ _ _ _)
   | (with_reducible exact LeO.refl _)
   | (with_reducible exact LeO.none _)
   | (with_reducible refine LeO.ite ?_ ?_)
   | (with_reducible refine LeO.bind ?_ (fun _ => ?_))
   | exact impl_Jacobi_associated.mono _ _ _ _
   | exact impl_jacobiCode.mono _ _ _ _ _
   | exact LeO.none _
   | refine LeO.ite ?_ ?_
   | refine LeO.bind ?_ (fun _ => ?_)
set_option maxHeartbeats 8000000 in
set_option maxRecDepth 100000 in
theorem impl_AssociatedOf.calls (k : Nat) (a0_0 : Int) (A0_1 : Option Addr) (c0_1 : Nat) (l0_1 : List Int) (A0_2 : Option Addr) (c0_2 : Nat) (l0_2 : List Int) (a1 : Int) (r1 : List Int) (r2 : Int) (w : World) (hr0_1 : Kd.C (Kd.int .i64) w A0_1 l0_1.length l0_1) (hc0_1 : l0_1.length ≤ c0_1) (hr0_2 : Kd.C (Kd.int .i64) w A0_2 l0_2.length l0_2) (hc0_2 : l0_2.length ≤ c0_2) (h : impl_AssociatedOf.f k a0_0 l0_1 l0_2 a1 = some (r1, r2)) :
  Calls Try.prog 20 #[.agg #[.int .i64 a0_0, .slice A0_1 l0_1.length c0_1, .slice A0_2 l0_2.length c0_2], .int .i64 a1] w fun e w' => ∃ v0_ : Value, e = .returned (.tuple #[v0_, .int .i64 r2]) ∧ Kd.R (Kd.int .i64) 2 w' w.heap.size (fun _ => True) v0_ r1 ∧ Below w.heap.size w w' := by
 have hu28 := Try.underlying28
 have HR0_1 := zA hr0_1
 have HC0_1 := zA hc0_1
 clear hr0_1 hc0_1
 have HR0_2 := zA hr0_2
 have HC0_2 := zA hc0_2
 clear hr0_2 hc0_2
 have HB := zA (Below.refl w.heap.size w)
 have H : ((impl_Jacobi_size.f a0_0 l0_1 l0_2).bind fun t387 => ((impl_within.f a1 0 t387).bind fun t388 => ((impl_jacobiCode.f k a0_0 l0_1 l0_2 t388).bind fun t389 => (if t389 = 0 then ((impl_Jacobi_associated.f k a0_0 l0_1 l0_2).bind fun t390 => (if 0 ≤ a1 then (if a1 < (t390.length : Int) then (some (rd_L1 t390 a1, 0)) else (none)) else (none))) else (some (([] : List Int), t389)))))) = some (r1, r2) := h
 clear h
 replace H := Option.bind_eq_some_iff.mp H
 obtain ⟨t387, A30, H⟩ := H
 replace H : ((impl_within.f a1 0 t387).bind fun t388 => ((impl_jacobiCode.f k a0_0 l0_1 l0_2 t388).bind fun t389 => (if t389 = 0 then ((impl_Jacobi_associated.f k a0_0 l0_1 l0_2).bind fun t390 => (if 0 ≤ a1 then (if a1 < (t390.length : Int) then (some (rd_L1 t390 a1, 0)) else (none)) else (none))) else (some (([] : List Int), t389))))) = some (r1, r2) := H
 have A3 := zA A30
 clear A30
 replace H := Option.bind_eq_some_iff.mp H
 obtain ⟨t388, A40, H⟩ := H
 replace H : ((impl_jacobiCode.f k a0_0 l0_1 l0_2 t388).bind fun t389 => (if t389 = 0 then ((impl_Jacobi_associated.f k a0_0 l0_1 l0_2).bind fun t390 => (if 0 ≤ a1 then (if a1 < (t390.length : Int) then (some (rd_L1 t390 a1, 0)) else (none)) else (none))) else (some (([] : List Int), t389)))) = some (r1, r2) := H
 have A4 := zA A40
 clear A40
 replace H := Option.bind_eq_some_iff.mp H
 obtain ⟨t389, A50, H⟩ := H
 replace H : (if t389 = 0 then ((impl_Jacobi_associated.f k a0_0 l0_1 l0_2).bind fun t390 => (if 0 ≤ a1 then (if a1 < (t390.length : Int) then (some (rd_L1 t390 a1, 0)) else (none)) else (none))) else (some (([] : List Int), t389))) = some (r1, r2) := H
 have A5 := zA A50
 clear A50
 by_cases c6 : t389 = 0
 ·rw [if_pos c6] at H
  have c6b0 : (t389 == 0) = true := beq_iff_eq.mpr c6
  have c6b1 : (t389 != 0) = false := bne_eq_false_iff_eq.mpr c6
  clear c6
  replace H := Option.bind_eq_some_iff.mp H
  obtain ⟨t390, A70, H⟩ := H
  replace H : (if 0 ≤ a1 then (if a1 < (t390.length : Int) then (some (rd_L1 t390 a1, 0)) else (none)) else (none)) = some (r1, r2) := H
  have A7 := zA A70
  clear A70
  by_cases c8 : 0 ≤ a1
  ·rw [if_pos c8] at H
   have c8b0 : decide (0 ≤ a1) = true := decide_eq_true c8
   clear c8
   by_cases c9 : a1 < (t390.length : Int)
   ·rw [if_pos c9] at H
    have c9b0 : decide (a1 < (t390.length : Int)) = true := decide_eq_true c9
    clear c9
    simp only [Option.some.injEq, Prod.mk.injEq] at H
    obtain ⟨rfl, rfl⟩ := H
    go_enter Try.func20, Try.ntmps20
    try go_wp2_with (first | ((with_reducible refine gate_dst (N := 2) rfl ?_); refine box_event ?hg (N := 2) ?hd (cs := #[.int .i64 a0_0, .slice A0_1 l0_1.length c0_1, .slice A0_2 l0_2.length c0_2]) (t := 28) ?hr ?_; (case hd => rfl); (case hg => rfl); (case hr => first | (go_simp; done) | (go_simp; rfl)); intro gb386 hg w10 hbox hb; have n0_ := xH HB hb; have n1_ := zA (hbox); have n2_ := zA ((by rw [hg]; exact (below_size (uH HB.out)) : w.heap.size ≤ gb386)); have n3_ := zA ((by rw [hg]; exact (below_size (uH HB.out)) : w.heap.size ≤ gb386)); clear HB; have HB := n0_; have BK386 := n1_; have GW386 := n2_; have GE386 := n3_; have := geI GE386; clear n0_ n1_ n2_ n3_ hb hbox hg))
    have n0_ := zA (blk_drew BK386.out)
    have n1_ := zA (below_drew1 HB.out)
    clear BK386 HB
    have BK386 := n0_; have HB := n1_
    clear n0_ n1_
    refine start_ (n := 7) (S := fun w' => w'.cell? ⟨gb386, 0, none⟩ = some (.int .i64 a0_0) ∧ w'.cell? ⟨gb386, 1, none⟩ = some (.slice A0_1 l0_1.length c0_1) ∧ w'.cell? ⟨gb386, 2, none⟩ = some (.slice A0_2 l0_2.length c0_2)) (ds := []) #[false, false, false, false, false, false, false] (by kernel_rfl) rfl rfl ⟨(blk_cell BK386.out 0).trans rfl, (blk_cell BK386.out 1).trans rfl, (blk_cell BK386.out 2).trans rfl⟩ (fun hHeld => ?_)
    generalize w10.drew = w11 at BK386 HB hHeld ⊢
    refine pure_ (i := 1) (N := some 8) (v := ?_) (a' := ?_) (bl 7 2) rfl rfl (by kernel_rfl) (fun _ _ _ h => h) (Or.inl ⟨by rfl, ?_⟩) ?_ ?_
    rotate_left
    ·intro w'
     go_simp
     with_reducible rfl
    rotate_left
    ·simp only [Act.put, ls, lz, ln, i64_w, i32_w]
     rfl
    refine take_ (i := 0) (N := some 7) (v := ?_) (a' := ?_) (bl 7 3) rfl rfl (by kernel_rfl) (fun _ _ _ h => h) (Or.inl ⟨by rfl, ?_⟩) hHeld ?_ ?_
    rotate_left
    ·rintro w' ⟨s0, s1, s2⟩
     go_simp
     with_reducible rfl
    rotate_left
    ·simp only [Act.put, ls, lz, ln, i64_w, i32_w]
     rfl
    refine take_ (i := 2) (N := some 9) (v := ?_) (a' := ?_) (bl 7 7) rfl rfl (by kernel_rfl) (fun _ _ _ h => h) (Or.inl ⟨by rfl, ?_⟩) hHeld ?_ ?_
    rotate_left
    ·rintro w' ⟨s0, s1, s2⟩
     go_simp
     with_reducible rfl
    rotate_left
    ·simp only [Act.put, ls, lz, ln, i64_w, i32_w]
     rfl
    refine one_ (i := 3) (N := some 10) (bl 7 15) rfl rfl (by kernel_rfl) (by decide) (fun K hK => ?_)
    refine goes_ Try.func50 (by kernel_rfl) rfl #[.agg #[.int .i64 a0_0, .slice A0_1 l0_1.length c0_1, .slice A0_2 l0_2.length c0_2]] (by rfl) rfl rfl (by (try simp only [la, lb, lc]); first | done | rfl | (simp only [ld, le]; rfl)) ?_
    with_reducible refine (impl_Jacobi_size.calls a0_0 _ _ l0_1 _ _ l0_2 t387 _ ?side1 ?side2 ?side3 ?side4 A3.out).mono ?_
    (case side1 => exact uC ((Kd.C_below HR0_1.out HB.out)))
    (case side2 => exact HC0_1.out)
    (case side3 => exact uC ((Kd.C_below HR0_2.out HB.out)))
    (case side4 => exact HC0_2.out)
    rintro e w12 ⟨rfl, hb⟩
    refine ⟨_, rfl, ?_⟩
    have n0_ := xB BK386 hb
    have n1_ := xH HB hb
    clear BK386 HB
    have BK386 := n0_; have HB := n1_
    clear n0_ n1_
    (try clear hb); (try clear hb2); (try clear hk); (try clear hi)
    refine hK.out _ _ ⟨(blk_cell BK386.out 0).trans rfl, (blk_cell BK386.out 1).trans rfl, (blk_cell BK386.out 2).trans rfl⟩ (fun hHeld => ?_)
    clear hK K
    refine no_ 10 ?_
    refine one_ (i := 4) (N := some 11) (bl 7 31) rfl rfl (by kernel_rfl) (by decide) (fun K hK => ?_)
    refine goes_ Try.func49 (by kernel_rfl) rfl #[.int .i64 a1, .int .i64 0, .int .i64 t387] (by rfl) rfl rfl (by (try simp only [la, lb, lc]); first | done | rfl | (simp only [ld, le]; rfl)) ?_
    with_reducible refine (impl_within.calls a1 0 t387 t388 _ A4.out).mono ?_
    rintro e w' ⟨rfl, ⟨nd, rfl⟩⟩
    refine ⟨_, rfl, ?_⟩
    refine hK.out _ _ ⟨(blk_cell BK386.out 0).trans rfl, (blk_cell BK386.out 1).trans rfl, (blk_cell BK386.out 2).trans rfl⟩ (fun hHeld => ?_)
    clear hK K
    refine no_ 11 ?_
    refine one_ (i := 5) (N := some 12) (bl 7 63) rfl rfl (by kernel_rfl) (by decide) (fun K hK => ?_)
    refine goes_ Try.func48 (by kernel_rfl) rfl #[.agg #[.int .i64 a0_0, .slice A0_1 l0_1.length c0_1, .slice A0_2 l0_2.length c0_2], .bool t388] (by rfl) rfl rfl (by (try simp only [la, lb, lc]); first | done | rfl | (simp only [ld, le]; rfl)) ?_
    with_reducible refine (impl_jacobiCode.calls k a0_0 _ _ l0_1 _ _ l0_2 t388 t389 _ ?side1 ?side2 ?side3 ?side4 A5.out).mono ?_
    (case side1 => repeat (first | exact (Kd.C_below HR0_1.out (uH HB.out)) | (with_reducible refine Kd.C_alloc ?_ _) | (with_reducible refine Kd.C_drewN ?_ _) | (with_reducible refine Kd.C_drew ?_)))
    (case side2 => exact HC0_1.out)
    (case side3 => repeat (first | exact (Kd.C_below HR0_2.out (uH HB.out)) | (with_reducible refine Kd.C_alloc ?_ _) | (with_reducible refine Kd.C_drewN ?_ _) | (with_reducible refine Kd.C_drew ?_)))
    (case side4 => exact HC0_2.out)
    rintro e w13 ⟨rfl, hb⟩
    refine ⟨_, rfl, ?_⟩
    have n0_ := xB BK386 hb
    have n1_ := xH HB hb
    clear BK386 HB
    have BK386 := n0_; have HB := n1_
    clear n0_ n1_
    (try clear hb); (try clear hb2); (try clear hk); (try clear hi)
    refine hK.out _ _ ⟨(blk_cell BK386.out 0).trans rfl, (blk_cell BK386.out 1).trans rfl, (blk_cell BK386.out 2).trans rfl⟩ (fun hHeld => ?_)
    clear hK K
    refine no_ 12 ?_
    refine pure_ (i := 6) (N := some 6) (v := ?_) (a' := ?_) (bl 7 127) rfl rfl (by kernel_rfl) (fun _ _ _ h => h) (Or.inl ⟨by rfl, ?_⟩) ?_ ?_
    rotate_left
    ·intro w'
     go_simp
     with_reducible rfl
    rotate_left
    ·simp only [Act.put, ls, lz, ln, i64_w, i32_w]
     rfl
    refine done_ (by kernel_rfl) ?_
    have hcz14_0 : w13.cell? ⟨gb386, 0, none⟩ = some (.int .i64 a0_0) := (blk_cell BK386.out 0).trans rfl
    have hcz14_1 : w13.cell? ⟨gb386, 1, none⟩ = some (.slice A0_1 l0_1.length c0_1) := (blk_cell BK386.out 1).trans rfl
    have hcz14_2 : w13.cell? ⟨gb386, 2, none⟩ = some (.slice A0_2 l0_2.length c0_2) := (blk_cell BK386.out 2).trans rfl
    have hfz14_0 := blk_frozen BK386.out 0
    have hfz14_1 := blk_frozen BK386.out 1
    have hfz14_2 := blk_frozen BK386.out 2
    try go_wp2_with (first | ((with_reducible refine gate_callee (f := 53) rfl ?_); refine goesL_ (some 17) rfl rfl Try.func53 (by kernel_rfl) rfl #[.agg #[.int .i64 a0_0, .slice A0_1 l0_1.length c0_1, .slice A0_2 l0_2.length c0_2]] rfl (by (try simp only [la, lb, lc]); first | done | rfl | (simp only [ld, le]; rfl)) ?_; (with_reducible refine (impl_Jacobi_associated.callsR k a0_0 _ _ l0_1 _ _ l0_2 t390 _ ?side1 ?side2 ?side3 ?side4 A7.out).mono ?_); (case side1 => exact uC ((Kd.C_below HR0_1.out HB.out))); (case side2 => exact HC0_1.out); (case side3 => exact uC ((Kd.C_below HR0_2.out HB.out))); (case side4 => exact HC0_2.out); rintro e w15 ⟨v391, rfl, ho0, hb⟩; refine ⟨_, rfl, ?_⟩; have n0_ := zA (Kd.R_lower (Kd.R_mono (ok' := fun k_ => (w.heap.size ≤ k_) ∧ k_ ≠ gb386) ho0 (fun k_ hk_ => ⟨(Nat.le_trans (below_size (uH HB.out)) hk_), (Kd.freshB (g := gb386) (o := .cells #[.int .i64 a0_0, .slice A0_1 l0_1.length c0_1, .slice A0_2 l0_2.length c0_2] 28 (0, 0)) (uB BK386.out) k_ hk_)⟩)) (below_size (uH HB.out))); have n1_ := xB BK386 hb; have n2_ := xH HB hb; clear BK386 HB; have HO392 := n0_; have BK386 := n1_; have HB := n2_; clear n0_ n1_ n2_; (try clear hb); (try clear hb2); (try clear hk); (try clear hi); (try clear ho0); obtain ⟨Ao16, co16, eo16⟩ := Kd.R_slice HO392.out; subst eo16; have p393 : 0 ≤ (a1 : Int) := of_decide_eq_true (by first | (with_reducible assumption) | assumption); have q393 : a1 < (t390.length : Int) := of_decide_eq_true (by first | (with_reducible assumption) | assumption); obtain ⟨ad393, A393_0, c393_0, e393, hx393_0, hl393_0, hi393_0⟩ := at_L1 (Kd.R_reads' HO392.out).2.2 a1 p393 q393; cases e393; have HL393_0 := zA (R_elemA HO392.out a1 p393 q393 hx393_0); have HR393_0 := zA hi393_0; have HC393_0 := zA hl393_0; clear hi393_0 hl393_0; replace p393 := eq_true p393; replace q393 := eq_true q393))
    go_ret2
    exact ⟨_, by first | rfl | (simp [errW_none, errW_some] <;> rfl) | (simp [*, errW_none, errW_some] <;> rfl), uR (Kd.R_mono HL393_0.out (fun _ _ => trivial)), uH HB.out⟩
   ·rw [if_neg c9] at H
    exact absurd H (by simp)
  ·rw [if_neg c8] at H
   exact absurd H (by simp)
 ·rw [if_neg c6] at H
  have c6b0 : (t389 == 0) = false := beq_eq_false_iff_ne.mpr c6
  have c6b1 : (t389 != 0) = true := bne_iff_ne.mpr c6
  simp only [Option.some.injEq, Prod.mk.injEq] at H
  obtain ⟨rfl, rfl⟩ := H
  go_enter Try.func20, Try.ntmps20
  try go_wp2_with (first | ((with_reducible refine gate_dst (N := 2) rfl ?_); refine box_event ?hg (N := 2) ?hd (cs := #[.int .i64 a0_0, .slice A0_1 l0_1.length c0_1, .slice A0_2 l0_2.length c0_2]) (t := 28) ?hr ?_; (case hd => rfl); (case hg => rfl); (case hr => first | (go_simp; done) | (go_simp; rfl)); intro gb386 hg w17 hbox hb; have n0_ := xH HB hb; have n1_ := zA (hbox); have n2_ := zA ((by rw [hg]; exact (below_size (uH HB.out)) : w.heap.size ≤ gb386)); have n3_ := zA ((by rw [hg]; exact (below_size (uH HB.out)) : w.heap.size ≤ gb386)); clear HB; have HB := n0_; have BK386 := n1_; have GW386 := n2_; have GE386 := n3_; have := geI GE386; clear n0_ n1_ n2_ n3_ hb hbox hg))
  have n0_ := zA (blk_drew BK386.out)
  have n1_ := zA (below_drew1 HB.out)
  clear BK386 HB
  have BK386 := n0_; have HB := n1_
  clear n0_ n1_
  refine start_ (n := 7) (S := fun w' => w'.cell? ⟨gb386, 0, none⟩ = some (.int .i64 a0_0) ∧ w'.cell? ⟨gb386, 1, none⟩ = some (.slice A0_1 l0_1.length c0_1) ∧ w'.cell? ⟨gb386, 2, none⟩ = some (.slice A0_2 l0_2.length c0_2)) (ds := []) #[false, false, false, false, false, false, false] (by kernel_rfl) rfl rfl ⟨(blk_cell BK386.out 0).trans rfl, (blk_cell BK386.out 1).trans rfl, (blk_cell BK386.out 2).trans rfl⟩ (fun hHeld => ?_)
  generalize w17.drew = w18 at BK386 HB hHeld ⊢
  refine pure_ (i := 1) (N := some 8) (v := ?_) (a' := ?_) (bl 7 2) rfl rfl (by kernel_rfl) (fun _ _ _ h => h) (Or.inl ⟨by rfl, ?_⟩) ?_ ?_
  rotate_left
  ·intro w'
   go_simp
   with_reducible rfl
  rotate_left
  ·simp only [Act.put, ls, lz, ln, i64_w, i32_w]
   rfl
  refine take_ (i := 0) (N := some 7) (v := ?_) (a' := ?_) (bl 7 3) rfl rfl (by kernel_rfl) (fun _ _ _ h => h) (Or.inl ⟨by rfl, ?_⟩) hHeld ?_ ?_
  rotate_left
  ·rintro w' ⟨s0, s1, s2⟩
   go_simp
   with_reducible rfl
  rotate_left
  ·simp only [Act.put, ls, lz, ln, i64_w, i32_w]
   rfl
  refine take_ (i := 2) (N := some 9) (v := ?_) (a' := ?_) (bl 7 7) rfl rfl (by kernel_rfl) (fun _ _ _ h => h) (Or.inl ⟨by rfl, ?_⟩) hHeld ?_ ?_
  rotate_left
  ·rintro w' ⟨s0, s1, s2⟩
   go_simp
   with_reducible rfl
  rotate_left
  ·simp only [Act.put, ls, lz, ln, i64_w, i32_w]
   rfl
  refine one_ (i := 3) (N := some 10) (bl 7 15) rfl rfl (by kernel_rfl) (by decide) (fun K hK => ?_)
  refine goes_ Try.func50 (by kernel_rfl) rfl #[.agg #[.int .i64 a0_0, .slice A0_1 l0_1.length c0_1, .slice A0_2 l0_2.length c0_2]] (by rfl) rfl rfl (by (try simp only [la, lb, lc]); first | done | rfl | (simp only [ld, le]; rfl)) ?_
  with_reducible refine (impl_Jacobi_size.calls a0_0 _ _ l0_1 _ _ l0_2 t387 _ ?side1 ?side2 ?side3 ?side4 A3.out).mono ?_
  (case side1 => exact uC ((Kd.C_below HR0_1.out HB.out)))
  (case side2 => exact HC0_1.out)
  (case side3 => exact uC ((Kd.C_below HR0_2.out HB.out)))
  (case side4 => exact HC0_2.out)
  rintro e w19 ⟨rfl, hb⟩
  refine ⟨_, rfl, ?_⟩
  have n0_ := xB BK386 hb
  have n1_ := xH HB hb
  clear BK386 HB
  have BK386 := n0_; have HB := n1_
  clear n0_ n1_
  (try clear hb); (try clear hb2); (try clear hk); (try clear hi)
  refine hK.out _ _ ⟨(blk_cell BK386.out 0).trans rfl, (blk_cell BK386.out 1).trans rfl, (blk_cell BK386.out 2).trans rfl⟩ (fun hHeld => ?_)
  clear hK K
  refine no_ 10 ?_
  refine one_ (i := 4) (N := some 11) (bl 7 31) rfl rfl (by kernel_rfl) (by decide) (fun K hK => ?_)
  refine goes_ Try.func49 (by kernel_rfl) rfl #[.int .i64 a1, .int .i64 0, .int .i64 t387] (by rfl) rfl rfl (by (try simp only [la, lb, lc]); first | done | rfl | (simp only [ld, le]; rfl)) ?_
  with_reducible refine (impl_within.calls a1 0 t387 t388 _ A4.out).mono ?_
  rintro e w' ⟨rfl, ⟨nd, rfl⟩⟩
  refine ⟨_, rfl, ?_⟩
  refine hK.out _ _ ⟨(blk_cell BK386.out 0).trans rfl, (blk_cell BK386.out 1).trans rfl, (blk_cell BK386.out 2).trans rfl⟩ (fun hHeld => ?_)
  clear hK K
  refine no_ 11 ?_
  refine one_ (i := 5) (N := some 12) (bl 7 63) rfl rfl (by kernel_rfl) (by decide) (fun K hK => ?_)
  refine goes_ Try.func48 (by kernel_rfl) rfl #[.agg #[.int .i64 a0_0, .slice A0_1 l0_1.length c0_1, .slice A0_2 l0_2.length c0_2], .bool t388] (by rfl) rfl rfl (by (try simp only [la, lb, lc]); first | done | rfl | (simp only [ld, le]; rfl)) ?_
  with_reducible refine (impl_jacobiCode.calls k a0_0 _ _ l0_1 _ _ l0_2 t388 t389 _ ?side1 ?side2 ?side3 ?side4 A5.out).mono ?_
  (case side1 => repeat (first | exact (Kd.C_below HR0_1.out (uH HB.out)) | (with_reducible refine Kd.C_alloc ?_ _) | (with_reducible refine Kd.C_drewN ?_ _) | (with_reducible refine Kd.C_drew ?_)))
  (case side2 => exact HC0_1.out)
  (case side3 => repeat (first | exact (Kd.C_below HR0_2.out (uH HB.out)) | (with_reducible refine Kd.C_alloc ?_ _) | (with_reducible refine Kd.C_drewN ?_ _) | (with_reducible refine Kd.C_drew ?_)))
  (case side4 => exact HC0_2.out)
  rintro e w20 ⟨rfl, hb⟩
  refine ⟨_, rfl, ?_⟩
  have n0_ := xB BK386 hb
  have n1_ := xH HB hb
  clear BK386 HB
  have BK386 := n0_; have HB := n1_
  clear n0_ n1_
  (try clear hb); (try clear hb2); (try clear hk); (try clear hi)
  refine hK.out _ _ ⟨(blk_cell BK386.out 0).trans rfl, (blk_cell BK386.out 1).trans rfl, (blk_cell BK386.out 2).trans rfl⟩ (fun hHeld => ?_)
  clear hK K
  refine no_ 12 ?_
  refine pure_ (i := 6) (N := some 6) (v := ?_) (a' := ?_) (bl 7 127) rfl rfl (by kernel_rfl) (fun _ _ _ h => h) (Or.inl ⟨by rfl, ?_⟩) ?_ ?_
  rotate_left
  ·intro w'
   go_simp
   with_reducible rfl
  rotate_left
  ·simp only [Act.put, ls, lz, ln, i64_w, i32_w]
   rfl
  refine done_ (by kernel_rfl) ?_
  try go_wp2
  go_ret2
  exact ⟨_, by first | rfl | (simp [errW_none, errW_some] <;> rfl) | (simp [*, errW_none, errW_some] <;> rfl), Kd.R_nil _ _ _ _ _, uH HB.out⟩
/- AssociatedOf: for all arguments the program and the reference come to one value; no condition. -/
theorem AssociatedOf_both (p : Int) (a b : List Int) (k : Int) (ha : Sm a.length) (hb : Sm b.length) :
    ∃ v : List Int × Int, Ev (fun n => spec_AssociatedOf.f n p a b k) v ∧ Ev (fun n => impl_AssociatedOf.f n p a b k) v ∧ Sm v.1.length := by
  have hs := specJacCode_ev p a b k 0 (a.length : Int) ha hb
  have hi := implJacCode_ev p a b (decide (0 ≤ k ∧ k ≤ (a.length : Int))) ha hb
  by_cases h : jacC p a b (decide (0 ≤ k ∧ k ≤ (a.length : Int))) = 0
  · obtain ⟨h1, h2⟩ := jacC0 h
    have h3 := of_decide_eq_true h2
    obtain ⟨⟨⟨h4, h5⟩, h6⟩, h7, h8⟩ := jacB.all h1
    have hp := jacB.pm h1
    obtain ⟨i, rfl⟩ : ∃ i : Nat, k = (i : Int) := ⟨k.toNat, by omega⟩
    have o1 := qPair_ok hp a b i
    have l1 := o1.2.1
    refine ⟨((qPair p a b i).1, 0), ?_, ?_, by dsimp only; unfold Sm; omega⟩
    · unfold spec_AssociatedOf.f
      exact Ev.bind hs (Ev.pos h (Ev.bind (specSecond_ev hp a b h7 h8.nm i (by omega) h5 h6) (Ev.now _)))
    · unfold impl_AssociatedOf.f
      refine Ev.bindE (size_eq p a b) (Ev.bindE (within_eq _ _ _) (Ev.bind hi (Ev.pos h (Ev.bind (implAssoc_ev hp a b h7 h8.nm h4 h5 h6) ?_))))
      rw [qAll_len, qAll_rd p a b (by omega)]
      exact Ev.pos (by omega) (Ev.pos (by omega) (Ev.now _))
  · refine ⟨([], jacC p a b (decide (0 ≤ k ∧ k ≤ (a.length : Int)))), ?_, ?_, Sm0⟩
    · unfold spec_AssociatedOf.f
      exact Ev.bind hs (Ev.neg h (Ev.now _))
    · unfold impl_AssociatedOf.f
      exact Ev.bindE (size_eq p a b) (Ev.bindE (within_eq _ _ _) (Ev.bind hi (Ev.neg h (Ev.now _))))
end Go.Proofs.Ytijkfbnjcebfaaa.Pr
