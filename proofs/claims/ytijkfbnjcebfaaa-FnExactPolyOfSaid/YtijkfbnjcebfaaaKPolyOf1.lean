/- Texts of this session in one: what functions of the program compute, and plain facts of it, under the conditions that each theorem names. -/
import Derived.Test.YtijkfbnjcebfaaaKC01
import Derived.Test.YtijkfbnjcebfaaaKC11
import Derived.Test.YtijkfbnjcebfaaaKC12
import Derived.Test.YtijkfbnjcebfaaaKC13
import Derived.Test.YtijkfbnjcebfaaaKC15
import Derived.Test.YtijkfbnjcebfaaaKC16
namespace Go.Proofs.Ytijkfbnjcebfaaa.Pr
open Go.RowKit Go.Proofs.YtijkfbnjcebfaaaW.PrintWords Go.Proofs.YtijkfbnjcebfaaaW.PrintLast Go.Proofs.YtijkfbnjcebfaaaW.PrintMore
attribute [local go_sem] max2_int min2_int max_two min_two max_three min_three max_four min_four   -- for this text's walks alone
set_option linter.unusedVariables false
set_option linter.unusedSimpArgs false
/-! ### spec_PolyOf: function 11 -/
def spec_PolyOf.f (k : Nat) (a0_0 : Int) (l0_1 : List Int) (l0_2 : List Int) (a1 : Int) : Option (List Int × Int) := (spec_l03Code.f k a0_0 l0_1 l0_2 a1 0 (l0_1.length : Int)).bind fun t178 => (if t178 = 0 then ((spec_l03Poly.f k a0_0 l0_1 l0_2 a1).bind fun t179 => (some (t179, 0))) else (some (([] : List Int), t178)))
theorem spec_PolyOf.mono : ∀ a0 a1 a2 a3 k, LeO (spec_PolyOf.f k a0 a1 a2 a3) (spec_PolyOf.f (k + 1) a0 a1 a2 a3) := by
 intro a0 a1 a2 a3 k
 unfold spec_PolyOf.f
 repeat' first
   | (with_reducible exact spec_l03Code.mono _ _ _ _ _ _ _)
   | (with_reducible exact spec_l03Poly.mono _ _ _ _ _)
   | (with_reducible exact LeO.refl _)
   | (with_reducible exact LeO.none _)
   | (with_reducible refine LeO.ite ?_ ?_)
   | (with_reducible refine LeO.bind ?_ (fun _ => ?_))
   | exact spec_l03Code.mono _ _ _ _ _ _ _
   | exact spec_l03Poly.mono _ _ _ _ _
   | exact LeO.none _
   | refine LeO.ite ?_ ?_
   | refine LeO.bind ?_ (fun _ => ?_)
set_option maxHeartbeats 8000000 in
set_option maxRecDepth 100000 in
theorem spec_PolyOf.calls (k : Nat) (a0_0 : Int) (A0_1 : Option Addr) (c0_1 : Nat) (l0_1 : List Int) (A0_2 : Option Addr) (c0_2 : Nat) (l0_2 : List Int) (a1 : Int) (r1 : List Int) (r2 : Int) (w : World) (hr0_1 : Kd.C (Kd.int .i64) w A0_1 l0_1.length l0_1) (hc0_1 : l0_1.length ≤ c0_1) (hr0_2 : Kd.C (Kd.int .i64) w A0_2 l0_2.length l0_2) (hc0_2 : l0_2.length ≤ c0_2) (h : spec_PolyOf.f k a0_0 l0_1 l0_2 a1 = some (r1, r2)) :
  Calls Try.prog 11 #[.agg #[.int .i64 a0_0, .slice A0_1 l0_1.length c0_1, .slice A0_2 l0_2.length c0_2], .int .i64 a1] w fun e w' => ∃ v0_ : Value, e = .returned (.tuple #[v0_, .int .i64 r2]) ∧ Kd.R (Kd.int .i64) 2 w' w.heap.size (fun _ => True) v0_ r1 ∧ Below w.heap.size w w' := by
 have hu28 := Try.underlying28
 have HR0_1 := zA hr0_1
 have HC0_1 := zA hc0_1
 clear hr0_1 hc0_1
 have HR0_2 := zA hr0_2
 have HC0_2 := zA hc0_2
 clear hr0_2 hc0_2
 have HB := zA (Below.refl w.heap.size w)
 have H : ((spec_l03Code.f k a0_0 l0_1 l0_2 a1 0 (l0_1.length : Int)).bind fun t178 => (if t178 = 0 then ((spec_l03Poly.f k a0_0 l0_1 l0_2 a1).bind fun t179 => (some (t179, 0))) else (some (([] : List Int), t178)))) = some (r1, r2) := h
 clear h
 replace H := Option.bind_eq_some_iff.mp H
 obtain ⟨t178, A30, H⟩ := H
 replace H : (if t178 = 0 then ((spec_l03Poly.f k a0_0 l0_1 l0_2 a1).bind fun t179 => (some (t179, 0))) else (some (([] : List Int), t178))) = some (r1, r2) := H
 have A3 := zA A30
 clear A30
 by_cases c4 : t178 = 0
 rotate_left
 ·rw [if_neg c4] at H
  have c4b0 : (t178 == 0) = false := beq_eq_false_iff_ne.mpr c4
  have c4b1 : (t178 != 0) = true := bne_iff_ne.mpr c4
  simp only [Option.some.injEq, Prod.mk.injEq] at H
  obtain ⟨rfl, rfl⟩ := H
  go_enter Try.func11, Try.ntmps11
  go_wp2_with (first | ((with_reducible refine gate_dst (N := 2) rfl ?_); refine bx 2 #[.int .i64 a0_0, .slice A0_1 l0_1.length c0_1, .slice A0_2 l0_2.length c0_2] 28 ?_; intro gb177 hg w11 hbox hb; have BK177 := zA (hbox); have GW177 := gq HB hg; have GE177 := gq HB hg; replace HB := xH HB hb; have := geI GE177; clear hb hbox hg; have hcz12_0 := bc BK177 0; have hcz12_1 := bc BK177 1; have hcz12_2 := bc BK177 2; have hfz12_0 := bf BK177 0; have hfz12_1 := bf BK177 1; have hfz12_2 := bf BK177 2) | ((with_reducible refine gate_callee (f := 46) rfl ?_); refine gL (some 12) Try.func46 #[.agg #[.int .i64 a0_0, .slice A0_1 l0_1.length c0_1, .slice A0_2 l0_2.length c0_2], .int .i64 a1, .int .i64 0, .int .i64 (l0_1.length : Int)] ?_; (with_reducible refine (spec_l03Code.calls k a0_0 _ _ l0_1 _ _ l0_2 a1 0 (l0_1.length : Int) t178 _ ?side1 ?side2 ?side3 ?side4 A3.out).mono ?_); (case side1 => exact uC ((Kd.C_below HR0_1.out HB.out))); (case side2 => exact HC0_1.out); (case side3 => exact uC ((Kd.C_below HR0_2.out HB.out))); (case side4 => exact HC0_2.out); rintro e w13 ⟨rfl, hb⟩; refine ⟨_, rfl, ?_⟩; replace BK177 := xB BK177 hb; replace HB := xH HB hb; (try clear hb); (try clear hb2); (try clear hk); (try clear hi)))
  go_ret2
  exact ⟨_, by first | rfl | (simp [errW_none, errW_some] <;> rfl) | (simp [*, errW_none, errW_some] <;> rfl), by first | exact Kd.R_nil _ _ _ _ _ | exact Kd.N_nil _ _ _ _ _ | exact Kd.V_nil _ _ _ _ _ | exact Kd.Q_nil _ _ _ _ _ | exact Kd.S_nil _ _ _ _ _, uH HB.out⟩

 rw [if_pos c4] at H
 have c4b0 : (t178 == 0) = true := beq_iff_eq.mpr c4
 have c4b1 : (t178 != 0) = false := bne_eq_false_iff_eq.mpr c4
 clear c4
 replace H := Option.bind_eq_some_iff.mp H
 obtain ⟨t179, A50, H⟩ := H
 replace H : (some (t179, 0)) = some (r1, r2) := H
 have A5 := zA A50
 clear A50
 simp only [Option.some.injEq, Prod.mk.injEq] at H
 obtain ⟨rfl, rfl⟩ := H
 go_enter Try.func11, Try.ntmps11
 go_wp2_with (first | ((with_reducible refine gate_dst (N := 2) rfl ?_); refine bx 2 #[.int .i64 a0_0, .slice A0_1 l0_1.length c0_1, .slice A0_2 l0_2.length c0_2] 28 ?_; intro gb177 hg w6 hbox hb; have BK177 := zA (hbox); have GW177 := gq HB hg; have GE177 := gq HB hg; replace HB := xH HB hb; have := geI GE177; clear hb hbox hg; have hcz7_0 := bc BK177 0; have hcz7_1 := bc BK177 1; have hcz7_2 := bc BK177 2; have hfz7_0 := bf BK177 0; have hfz7_1 := bf BK177 1; have hfz7_2 := bf BK177 2) | ((with_reducible refine gate_callee (f := 46) rfl ?_); refine gL (some 12) Try.func46 #[.agg #[.int .i64 a0_0, .slice A0_1 l0_1.length c0_1, .slice A0_2 l0_2.length c0_2], .int .i64 a1, .int .i64 0, .int .i64 (l0_1.length : Int)] ?_; (with_reducible refine (spec_l03Code.calls k a0_0 _ _ l0_1 _ _ l0_2 a1 0 (l0_1.length : Int) t178 _ ?side1 ?side2 ?side3 ?side4 A3.out).mono ?_); (case side1 => exact uC ((Kd.C_below HR0_1.out HB.out))); (case side2 => exact HC0_1.out); (case side3 => exact uC ((Kd.C_below HR0_2.out HB.out))); (case side4 => exact HC0_2.out); rintro e w8 ⟨rfl, hb⟩; refine ⟨_, rfl, ?_⟩; replace BK177 := xB BK177 hb; replace HB := xH HB hb; (try clear hb); (try clear hb2); (try clear hk); (try clear hi); have hcz9_0 := bc BK177 0; have hcz9_1 := bc BK177 1; have hcz9_2 := bc BK177 2; have hfz9_0 := bf BK177 0; have hfz9_1 := bf BK177 1; have hfz9_2 := bf BK177 2) | ((with_reducible refine gate_callee (f := 47) rfl ?_); refine gL (some 18) Try.func47 #[.agg #[.int .i64 a0_0, .slice A0_1 l0_1.length c0_1, .slice A0_2 l0_2.length c0_2], .int .i64 a1] ?_; (with_reducible refine (spec_l03Poly.calls k a0_0 _ _ l0_1 _ _ l0_2 a1 t179 _ ?side1 ?side2 ?side3 ?side4 A5.out).mono ?_); (case side1 => exact uC ((Kd.C_below HR0_1.out HB.out))); (case side2 => exact HC0_1.out); (case side3 => exact uC ((Kd.C_below HR0_2.out HB.out))); (case side4 => exact HC0_2.out); rintro e w10 ⟨v180, rfl, ho0, hb⟩; refine ⟨_, rfl, ?_⟩; have HO181 := zA (Kd.R_lower ho0 (below_size (uH HB.out))); replace BK177 := xB BK177 hb; replace HB := xH HB hb; (try clear hb); (try clear hb2); (try clear hk); (try clear hi); (try clear ho0)))
 go_ret2
 exact ⟨_, by first | rfl | (simp [errW_none, errW_some] <;> rfl) | (simp [*, errW_none, errW_some] <;> rfl), uR HO181.out, uH HB.out⟩
/- The rows of rows that this function makes are the call's own, the inner ones too; turned out of the printed walk. No condition beside its own. -/
set_option maxHeartbeats 8000000 in
set_option maxRecDepth 100000 in
theorem impl_Jacobi_polys.callsR (k : Nat) (a0_0 : Int) (A0_1 : Option Addr) (c0_1 : Nat) (l0_1 : List Int) (A0_2 : Option Addr) (c0_2 : Nat) (l0_2 : List Int) (r : List (List Int)) (w : World) (hr0_1 : Kd.C (Kd.int .i64) w A0_1 l0_1.length l0_1) (hc0_1 : l0_1.length ≤ c0_1) (hr0_2 : Kd.C (Kd.int .i64) w A0_2 l0_2.length l0_2) (hc0_2 : l0_2.length ≤ c0_2) (h : impl_Jacobi_polys.f k a0_0 l0_1 l0_2 = some r) :
  Calls Try.prog 51 #[.agg #[.int .i64 a0_0, .slice A0_1 l0_1.length c0_1, .slice A0_2 l0_2.length c0_2]] w fun e w' => ∃ v0_ : Value, e = .returned (v0_) ∧ Kd.R (Kd.slice 2 (Kd.int .i64)) 22 w' w.heap.size (fun k_ => (w.heap.size ≤ k_)) v0_ r ∧ Below w.heap.size w w' := by
 have hu28 := Try.underlying28
 have HR0_1 := zA hr0_1
 have HC0_1 := zA hc0_1
 clear hr0_1 hc0_1
 have HR0_2 := zA hr0_2
 have HC0_2 := zA hc0_2
 clear hr0_2 hc0_2
 have HB := zA (Below.refl w.heap.size w)
 have H : (impl_Jacobi_polys.l0 k (([(([1] : List Int))] : List (List Int))) ([] : List Int) l0_1 (l0_1.length : Int) 0 a0_0 l0_1 l0_2) = some r := h
 clear h
 obtain ⟨y257, hy257⟩ : ∃ y_ : List Int, y_ = (([1] : List Int)) := ⟨_, rfl⟩
 replace H : (impl_Jacobi_polys.l0 k (([y257] : List (List Int))) ([] : List Int) l0_1 (l0_1.length : Int) 0 a0_0 l0_1 l0_2) = some r := by first | (rw [hy257]; with_reducible exact H) | (have H2_ := (Option.bind_some _ _).symm.trans H; rw [hy257]; with_reducible exact H2_) | (have H2_ := (Option.bind_some _ _).symm.trans H; with_reducible exact H2_) | with_reducible exact H | (rw [hy257]; exact H) | exact H
 have Ny257 := zA hy257
 clear hy257
 obtain ⟨y260, hy260⟩ : ∃ y_ : List (List Int), y_ = (([y257] : List (List Int))) := ⟨_, rfl⟩
 replace H : (impl_Jacobi_polys.l0 k y260 ([] : List Int) l0_1 (l0_1.length : Int) 0 a0_0 l0_1 l0_2) = some r := by first | (rw [hy260]; with_reducible exact H) | (have H2_ := (Option.bind_some _ _).symm.trans H; rw [hy260]; with_reducible exact H2_) | (have H2_ := (Option.bind_some _ _).symm.trans H; with_reducible exact H2_) | with_reducible exact H | (rw [hy260]; exact H) | exact H
 have Ny260 := zA hy260
 clear hy260
 have H' := zA H
 clear H
 go_enter Try.func51, Try.ntmps51
 go_wp2_with (first | ((with_reducible refine gate_dst (N := 1) rfl ?_); refine box_event ?hg (N := 1) ?hd (cs := #[.int .i64 a0_0, .slice A0_1 l0_1.length c0_1, .slice A0_2 l0_2.length c0_2]) (t := 28) ?hr ?_; (case hd => rfl); (case hg => rfl); (case hr => first | (go_simp; done) | (go_simp; rfl)); intro gb256 hg w2 hbox hb; have n0_ := xH HB hb; have n1_ := zA (hbox); have n2_ := zA ((by rw [hg]; exact (below_size (uH HB.out)) : w.heap.size ≤ gb256)); have n3_ := zA ((by rw [hg]; exact (below_size (uH HB.out)) : w.heap.size ≤ gb256)); clear HB; have HB := n0_; have BK256 := n1_; have GW256 := n2_; have GE256 := n3_; have := geI GE256; clear n0_ n1_ n2_ n3_ hb hbox hg) | ((with_reducible refine gate_dst (N := 8) rfl ?_); refine Kd.R_lit (Kd.int .i64) _ 2 ?hg (N := 8) ?hd (xs := ([1] : List Int)) (inner := [.int .i64 1]) (ok := fun _ => True) (okp := fun _ => True) ?hr ?hp (fun _ hk => hk) trivial (Below.refl _ _) (Nat.le_refl _) (by simp) ?_; (case hd => rfl); (case hg => rfl); (case hr => first | (go_simp; done) | (go_simp; rfl)); (case hp => exact (Reps.one (show Kd.M (Kd.int .i64) _ _ _ 1 [.int .i64 1] from rfl) (Reps.none _ _))); intro v258 w3 ho4 hb hg_ hnew_; clear hg_ hnew_; (first | rw [← Ny257.out] at ho4 | (simp only [Int.reduceToNat] at ho4; rw [← Ny257.out] at ho4)); have n0_ := zA (Kd.R_lower (Kd.R_newM (M := fun k_ => (w.heap.size ≤ k_)) ho4 (below_size (uH HB.out)) (fun k_ h_ => h_)) (below_size (uH HB.out))); have n1_ := xB BK256 hb; have n2_ := xH HB hb; clear BK256 HB; have HO259 := n0_; have BK256 := n1_; have HB := n2_; clear n0_ n1_ n2_ hb ho4; obtain ⟨Ao5, co5, eo5⟩ := Kd.R_slice HO259.out; subst eo5) | ((with_reducible refine gate_dst (N := 9) rfl ?_); refine Kd.R_lit (Kd.slice 2 (Kd.int .i64)) w.heap.size 22 ?hg (N := 9) ?hd (xs := ([y257] : List (List Int))) (inner := [.slice Ao5 y257.length co5]) (ok := (fun k_ => (w.heap.size ≤ k_) ∧ k_ ≠ gb256)) (okp := (fun k_ => (w.heap.size ≤ k_) ∧ k_ ≠ gb256)) ?hr ?hp (fun _ hk => hk) ((show ∀ k_, w3.heap.size ≤ k_ → (fun k_ => (w.heap.size ≤ k_) ∧ k_ ≠ gb256) k_ from fun k_ hk => ⟨(Nat.le_trans (below_size (uH HB.out)) hk), Kd.freshB (g := gb256) (o := .cells #[.int .i64 a0_0, .slice A0_1 l0_1.length c0_1, .slice A0_2 l0_2.length c0_2] 28 (0, 0)) (uB BK256.out) k_ hk⟩) _ (Nat.le_refl _)) (Below.refl _ _) (below_size (uH HB.out)) (by simp) ?_; (case hd => rfl); (case hg => rfl); (case hr => first | (go_simp; done) | (go_simp; rfl)); (case hp => exact (Reps.one (show Kd.M (Kd.slice 2 (Kd.int .i64)) _ _ _ y257 [.slice Ao5 y257.length co5] from ⟨_, rfl, (Kd.R_mono (ok' := (fun k_ => (w.heap.size ≤ k_) ∧ k_ ≠ gb256)) (Kd.R_types (HO259.out) BK256.out (by decide)) (fun k_ hk => ⟨hk.1.1, hk.2⟩))⟩) (Reps.none _ _))); intro v261 w6 ho7 hb hg_ hnew_; replace hb := (Below.refl _ _).grown hg_ (Nat.le_refl _) (fun k e => by simp at e); clear hg_ hnew_; (first | rw [← Ny260.out] at ho7 | (simp only [Int.reduceToNat] at ho7; rw [← Ny260.out] at ho7)); have n0_ := zA (ho7); have n1_ := xB BK256 hb; have n2_ := xH HB hb; clear BK256 HB HO259; have HO262 := n0_; have BK256 := n1_; have HB := n2_; clear n0_ n1_ n2_ hb ho7; have hcz8_0 : w6.cell? ⟨gb256, 0, none⟩ = some (.int .i64 a0_0) := (blk_cell BK256.out 0).trans rfl; have hcz8_1 : w6.cell? ⟨gb256, 1, none⟩ = some (.slice A0_1 l0_1.length c0_1) := (blk_cell BK256.out 1).trans rfl; have hcz8_2 : w6.cell? ⟨gb256, 2, none⟩ = some (.slice A0_2 l0_2.length c0_2) := (blk_cell BK256.out 2).trans rfl; have hfz8_0 := blk_frozen BK256.out 0; have hfz8_1 := blk_frozen BK256.out 1; have hfz8_2 := blk_frozen BK256.out 2))
 go_loopg [3, 4, 13] k (fun kq v3 v4 v13 w' => ∃ (x3_1 : List (List Int)) (x4_1 : List Int) (x13_1 : Int), v13 = .int .i64 x13_1 ∧ Aside0 (impl_Jacobi_polys.l0 kq x3_1 x4_1 l0_1 (l0_1.length : Int) x13_1 a0_0 l0_1 l0_2 = some r) ∧ Aside0 (kq ≤ k) ∧ Aside0 (Kd.R (Kd.slice 2 (Kd.int .i64)) 22 w' w.heap.size (fun k_ => (w.heap.size ≤ k_) ∧ k_ ≠ gb256) v3 x3_1) ∧ Aside0 (Kd.V (Kd.int .i64) 2 w' w.heap.size (fun k_ => (w.heap.size ≤ k_) ∧ some k_ ≠ (v3 : Value).ownBlock ∧ k_ ≠ gb256) v4 x4_1) ∧ Aside0 (w'.heap[gb256]? = some (.cells #[.int .i64 a0_0, (.slice A0_1 l0_1.length c0_1), (.slice A0_2 l0_2.length c0_2)] 28 (0, 0))) ∧ Aside0 (Below w.heap.size w w'))
 case atStart => exact ⟨(y260), (([] : List Int)), (0), (by first | rfl | (simp; done) | (simp [*]; done)), H', ⟨Nat.le_refl _⟩, ⟨by (with_reducible repeat (first | apply Kd.R_alloc | apply Kd.R_drewN | apply Kd.R_drew)); exact HO262.out⟩, ⟨Kd.V_nil _ _ _ _ _⟩, ⟨uB BK256.out⟩, ⟨uH HB.out⟩⟩
 case round =>
  clear H'
  try clear p2
  try clear c5
  try clear hcz8_0
  try clear hcz8_1
  try clear hcz8_2
  try clear hfz8_0
  try clear hfz8_1
  try clear hfz8_2
  obtain ⟨x3_1, x4_1, x13_1, rfl, HA, HK1, HO_3, HO_4, BK256, HB⟩ := hrel
  cases gk with
  | zero => exact absurd HA.out (by simp [impl_Jacobi_polys.l0])
  | succ k1 =>
   have H := HA.out
   clear HA
   simp only [impl_Jacobi_polys.l0] at H
   by_cases c9 : x13_1 < (l0_1.length : Int)
   ·rw [if_pos c9] at H
    have c9b0 : decide (x13_1 < (l0_1.length : Int)) = true := decide_eq_true c9
    clear c9
    by_cases c10 : 0 ≤ x13_1
    ·rw [if_pos c10] at H
     have c10b0 : decide (0 ≤ x13_1) = true := decide_eq_true c10
     clear c10
     by_cases c11 : x13_1 < (l0_1.length : Int)
     ·rw [if_pos c11] at H
      have c11b0 : decide (x13_1 < (l0_1.length : Int)) = true := decide_eq_true c11
      clear c11
      by_cases c12 : x13_1 < (x3_1.length : Int)
      ·rw [if_pos c12] at H
       have c12b0 : decide (x13_1 < (x3_1.length : Int)) = true := decide_eq_true c12
       clear c12
       replace H := Option.bind_eq_some_iff.mp H
       obtain ⟨t265, A130, H⟩ := H
       replace H : (if x13_1 < (l0_2.length : Int) then ((impl_field_next.f k1 t265 (rd l0_1 x13_1) (rd l0_2 x13_1) (rd_L1 x3_1 x13_1) x4_1).bind fun t267 => (if x3_1.length < 5864062014805 then (impl_Jacobi_polys.l0 k1 (x3_1 ++ [t267]) (rd_L1 x3_1 x13_1) l0_1 (l0_1.length : Int) (wrap64 (x13_1 + 1)) a0_0 l0_1 l0_2) else (none))) else (none)) = some r := H
       have A13 := zA A130
       clear A130
       by_cases c14 : x13_1 < (l0_2.length : Int)
       ·rw [if_pos c14] at H
        have c14b0 : decide (x13_1 < (l0_2.length : Int)) = true := decide_eq_true c14
        clear c14
        replace H := Option.bind_eq_some_iff.mp H
        obtain ⟨t267, A150, H⟩ := H
        replace H : (if x3_1.length < 5864062014805 then (impl_Jacobi_polys.l0 k1 (x3_1 ++ [t267]) (rd_L1 x3_1 x13_1) l0_1 (l0_1.length : Int) (wrap64 (x13_1 + 1)) a0_0 l0_1 l0_2) else (none)) = some r := H
        have A15 := zA A150
        clear A150
        by_cases c16 : x3_1.length < 5864062014805
        ·rw [if_pos c16] at H
         have LMc16 := zA c16
         clear c16
         obtain ⟨y270, hy270⟩ : ∃ y_ : List (List Int), y_ = (x3_1 ++ [t267]) := ⟨_, rfl⟩
         replace H : (impl_Jacobi_polys.l0 k1 y270 (rd_L1 x3_1 x13_1) l0_1 (l0_1.length : Int) (wrap64 (x13_1 + 1)) a0_0 l0_1 l0_2) = some r := by first | (rw [hy270]; with_reducible exact H) | (have H2_ := (Option.bind_some _ _).symm.trans H; rw [hy270]; with_reducible exact H2_) | (have H2_ := (Option.bind_some _ _).symm.trans H; with_reducible exact H2_) | with_reducible exact H | (rw [hy270]; exact H) | exact H
         have Ny270 := zA hy270
         clear hy270
         have H' := zA H
         clear H
         have p263 : 0 ≤ (x13_1 : Int) := of_decide_eq_true (by first | (with_reducible assumption) | assumption)
         have q263 : x13_1 < (l0_1.length : Int) := of_decide_eq_true (by first | (with_reducible assumption) | assumption)
         obtain ⟨ad263, e263, hx263_0⟩ := Kd.at_int HR0_1.out x13_1 p263 q263
         cases e263
         replace hx263_0 := (HB.out.cell (World.block_lt_of_cell? w _ hx263_0)).trans hx263_0
         replace p263 := eq_true p263
         replace q263 := eq_true q263
         obtain ⟨Ao17, co17, eo17⟩ := Kd.R_slice HO_3.out
         subst eo17
         have p264 : 0 ≤ (x13_1 : Int) := of_decide_eq_true (by first | (with_reducible assumption) | assumption)
         have q264 : x13_1 < (x3_1.length : Int) := of_decide_eq_true (by first | (with_reducible assumption) | assumption)
         obtain ⟨ad264, A264_0, c264_0, e264, hx264_0, hl264_0, hi264_0⟩ := at_L1 (Kd.R_reads' HO_3.out).2.2 x13_1 p264 q264
         cases e264
         obtain ⟨ce264, hce264, hMe264, hcc264⟩ := Kd.N_get (Kd.R_N HO_3.out) [] x13_1 p264 (by first | exact q264 | exact of_decide_eq_true (by first | (with_reducible assumption) | assumption) | (have e_ := (Kd.R_reads' HO_3.out).1; omega))
         obtain ⟨ua264_0, uc264_0, rfl, ul264_0, ge264_0⟩ := Kd.FK_slice_open hMe264
         have hv264_0 := hcc264 0 _ rfl
         rw [Nat.add_zero, show ((Kd.slice 2 (Kd.int .i64))).sz = 1 from rfl, Nat.mul_one] at hv264_0
         replace hv264_0 := Option.some.inj (hv264_0.symm.trans hx264_0)
         injection hv264_0 with hva_ hvn_ hvc_
         rw [hva_] at ge264_0
         rw [hvc_] at ul264_0
         have HL264_0 := zA (show Kd.V (Kd.int .i64) 2 _ w.heap.size _ _ (rd_L1 x3_1 x13_1) from Kd.V_mk ul264_0 ge264_0)
         clear hva_ hvn_ hvc_ ge264_0 ul264_0
         clear hcc264 hce264
         have HR264_0 := zA hi264_0
         have HC264_0 := zA hl264_0
         clear hi264_0 hl264_0
         replace p264 := eq_true p264
         replace q264 := eq_true q264
         try go_wp2
         have n0_ := zA (Kd.R_drew HO_3.out)
         have n1_ := zA (Kd.V_drew HO_4.out)
         have n2_ := zA (Kd.V_drew HL264_0.out)
         have n3_ := zA (blk_drew BK256.out)
         have n4_ := zA (Kd.C_drew HR264_0.out)
         have n5_ := zA (below_drew1 HB.out)
         clear HO_3 HO_4 HL264_0 BK256 HR264_0 HB
         have HO_3 := n0_; have HO_4 := n1_; have HL264_0 := n2_; have BK256 := n3_; have HR264_0 := n4_; have HB := n5_
         clear n0_ n1_ n2_ n3_ n4_ n5_
         have p266 : 0 ≤ (x13_1 : Int) := of_decide_eq_true (by first | (with_reducible assumption) | assumption)
         have q266 : x13_1 < (l0_2.length : Int) := of_decide_eq_true (by first | (with_reducible assumption) | assumption)
         obtain ⟨ad266, e266, hx266_0⟩ := Kd.at_int HR0_2.out x13_1 p266 q266
         have hw266_0 := hx266_0
         cases e266
         replace hx266_0 := (HB.out.cell (World.block_lt_of_cell? w _ hx266_0)).trans hx266_0
         replace p266 := eq_true p266
         replace q266 := eq_true q266
         refine start_ (n := 15) (S := fun w' => w'.cell? ⟨gb256, 0, none⟩ = some (.int .i64 a0_0) ∧ w'.cell? ⟨gb256, 1, none⟩ = some (.slice (some ad263) l0_1.length c0_1) ∧ w'.cell? ⟨gb256, 2, none⟩ = some (.slice (some ad266) l0_2.length c0_2) ∧ w'.cell? (ad266.add (x13_1).toNat) = some (.int .i64 (rd l0_2 x13_1))) (ds := []) #[false, false, false, false, false, false, false, false, false, false, false, false, false, false, false] (by kernel_rfl) rfl rfl ⟨(blk_cell BK256.out 0).trans rfl, (blk_cell BK256.out 1).trans rfl, (blk_cell BK256.out 2).trans rfl, ((HB.out.cell (World.block_lt_of_cell? w _ hw266_0)).trans hw266_0)⟩ (fun hHeld => ?_); refine with_tabW impl_Jacobi_polys.tab7 impl_Jacobi_polys.bits7 (fun HT_ HW_ => ?_)
         generalize wr.drew = w18 at HO_3 HO_4 HL264_0 BK256 HR264_0 HB hx266_0 hHeld ⊢
         refine pu_ 0 22 (bl 15 1) HT_ ?_
         refine pu_ 3 25 (bl 15 9) HT_ ?_
         refine pu_ 4 26 (bl 15 25) HT_ ?_
         refine pu_ 6 28 (bl 15 89) HT_ ?_
         refine pu_ 9 31 (bl 15 601) HT_ ?_
         refine pu_ 10 32 (bl 15 1625) HT_ ?_
         refine ta_ 1 23 (bl 15 1627) HT_ HW_ hHeld ?_
         refine ta_ 5 27 (bl 15 1659) HT_ HW_ hHeld ?_
         refine pu_ 7 29 (bl 15 1787) HT_ ?_
         refine ta_ 8 30 (bl 15 2043) HT_ HW_ hHeld ?_
         refine on_ 2 (some 24) (bl 15 2047) HT_ (fun K hK => ?_)
         refine goes_ Try.func64 (by kernel_rfl) rfl #[.agg #[.int .i64 a0_0, .slice (some ad263) l0_1.length c0_1, .slice (some ad266) l0_2.length c0_2]] (by rfl) rfl rfl (by (try simp only [la, lb, lc]); first | done | rfl | (simp only [ld, le]; rfl)) ?_
         with_reducible refine (impl_Jacobi_field.calls a0_0 _ _ l0_1 _ _ l0_2 t265 _ ?side1 ?side2 ?side3 ?side4 A13.out).mono ?_
         (case side1 => exact uC ((Kd.C_below HR0_1.out HB.out)))
         (case side2 => exact HC0_1.out)
         (case side3 => exact uC ((Kd.C_below HR0_2.out HB.out)))
         (case side4 => exact HC0_2.out)
         rintro e w19 ⟨rfl, hb⟩
         refine ⟨_, rfl, ?_⟩
         have n0_ := zA (Kd.R_below (by (with_reducible repeat (first | apply Kd.R_alloc | apply Kd.R_drewN | apply Kd.R_drew)); exact HO_3.out) hb)
         have n1_ := zA (Kd.V_below (by (with_reducible repeat (first | apply Kd.V_alloc | apply Kd.V_drewN | apply Kd.V_drew)); exact HO_4.out) hb)
         have n2_ := zA (Kd.V_below (by (with_reducible repeat (first | apply Kd.V_alloc | apply Kd.V_drewN | apply Kd.V_drew)); exact HL264_0.out) hb)
         have n3_ := xB BK256 hb
         have n4_ := zA (Kd.C_below (by repeat (first | (with_reducible exact HR264_0.out) | (with_reducible refine Kd.C_alloc ?_ _) | (with_reducible refine Kd.C_drewN ?_ _) | (with_reducible refine Kd.C_drew ?_) | exact HR264_0.out)) hb)
         have n5_ := xH HB hb
         clear HO_3 HO_4 HL264_0 BK256 HR264_0 HB
         have HO_3 := n0_; have HO_4 := n1_; have HL264_0 := n2_; have BK256 := n3_; have HR264_0 := n4_; have HB := n5_
         clear n0_ n1_ n2_ n3_ n4_ n5_
         (try clear hb); (try clear hb2); (try clear hk); (try clear hi)
         obtain ⟨Ao20, co20, eo20⟩ := Kd.V_slice HO_4.out
         (first | subst eo20 | (injection eo20 with f1_ f2_ f3_; have f4_ := f1_.symm; have f5_ := f3_.symm; clear f1_ f2_ f3_; subst f4_; subst f5_))
         refine hK.out _ _ ⟨(blk_cell BK256.out 0).trans rfl, (blk_cell BK256.out 1).trans rfl, (blk_cell BK256.out 2).trans rfl, ((HB.out.cell (World.block_lt_of_cell? w _ hw266_0)).trans hw266_0)⟩ (fun hHeld => ?_)
         clear hK K
         refine no_ 24 ?_
         refine on_ 11 (some 33) (bl 15 4095) HT_ (fun K hK => ?_)
         refine goes_ Try.func84 (by kernel_rfl) rfl #[.int .i64 t265, .int .i64 (rd l0_1 x13_1), .int .i64 (rd l0_2 x13_1), .slice A264_0 (rd_L1 x3_1 x13_1).length c264_0, .slice Ao20 x4_1.length co20] (by rfl) rfl rfl (by (try simp only [la, lb, lc]); first | done | rfl | (simp only [ld, le]; rfl)) ?_
         with_reducible refine (impl_field_next.calls k1 t265 (rd l0_1 x13_1) (rd l0_2 x13_1) _ _ (rd_L1 x3_1 x13_1) _ _ x4_1 t267 _ ?side1 ?side2 ?side3 ?side4 A15.out).mono ?_
         (case side1 => repeat (first | exact (by repeat (first | (with_reducible exact HR264_0.out) | (with_reducible refine Kd.C_alloc ?_ _) | (with_reducible refine Kd.C_drewN ?_ _) | (with_reducible refine Kd.C_drew ?_) | exact HR264_0.out)) | (with_reducible refine Kd.C_alloc ?_ _) | (with_reducible refine Kd.C_drewN ?_ _) | (with_reducible refine Kd.C_drew ?_)))
         (case side2 => exact HC264_0.out)
         (case side3 => exact uC ((Kd.V_reads' HO_4.out).2.2))
         (case side4 => exact (Kd.V_reads' HO_4.out).2.1)
         rintro e w21 ⟨v268, rfl, ho0, hb⟩
         refine ⟨_, rfl, ?_⟩
         have n0_ := zA (Kd.R_elder' (by (with_reducible repeat (first | apply Kd.R_alloc | apply Kd.R_drewN | apply Kd.R_drew)); exact HO_3.out) (Kd.R_base ho0) hb)
         have n1_ := zA (Kd.V_elder' (by (with_reducible repeat (first | apply Kd.V_alloc | apply Kd.V_drewN | apply Kd.V_drew)); exact HO_4.out) (Kd.R_base ho0) hb)
         have n2_ := zA (Kd.V_elder' (by (with_reducible repeat (first | apply Kd.V_alloc | apply Kd.V_drewN | apply Kd.V_drew)); exact HL264_0.out) (Kd.R_base ho0) hb)
         have n3_ := zA (Kd.R_lower (Kd.R_newM (M := fun k_ => (w.heap.size ≤ k_)) ho0 (below_size (uH HB.out)) (fun k_ h_ => h_)) (below_size (uH HB.out)))
         have n4_ := xB BK256 hb
         have n5_ := zA (Kd.C_below (by repeat (first | (with_reducible exact HR264_0.out) | (with_reducible refine Kd.C_alloc ?_ _) | (with_reducible refine Kd.C_drewN ?_ _) | (with_reducible refine Kd.C_drew ?_) | exact HR264_0.out)) hb)
         have n6_ := xH HB hb
         clear HO_3 HO_4 HL264_0 BK256 HR264_0 HB
         have HO_3 := n0_; have HO_4 := n1_; have HL264_0 := n2_; have HO269 := n3_; have BK256 := n4_; have HR264_0 := n5_; have HB := n6_
         clear n0_ n1_ n2_ n3_ n4_ n5_ n6_
         (try clear hb); (try clear hb2); (try clear hk); (try clear hi); (try clear ho0)
         obtain ⟨Ao23, co23, eo23⟩ := Kd.R_slice HO269.out
         (first | subst eo23 | (injection eo23 with f1_ f2_ f3_; have f4_ := f1_.symm; have f5_ := f3_.symm; clear f1_ f2_ f3_; subst f4_; subst f5_))
         refine hK.out _ _ ⟨(blk_cell BK256.out 0).trans rfl, (blk_cell BK256.out 1).trans rfl, (blk_cell BK256.out 2).trans rfl, ((HB.out.cell (World.block_lt_of_cell? w _ hw266_0)).trans hw266_0)⟩ (fun hHeld => ?_)
         clear hK K
         refine no_ 33 ?_
         refine on_ 12 (some 34) (bl 15 8191) HT_ (fun K hK => ?_)
         refine value_ (w1 := ?_) (v := ?_) (by rfl) rfl ?_ ?_
         rotate_left 2
         ·go_simp
          constructor
          ·rfl
          ·rfl
         refine hK.out _ _ ⟨(blk_cell (blk_alloc BK256.out _) 0).trans rfl, (blk_cell (blk_alloc BK256.out _) 1).trans rfl, (blk_cell (blk_alloc BK256.out _) 2).trans rfl, (World.cell?_alloc_lt _ _ _ (World.block_lt_of_cell? _ _ (((HB.out.cell (World.block_lt_of_cell? w _ hw266_0)).trans hw266_0)))).trans (((HB.out.cell (World.block_lt_of_cell? w _ hw266_0)).trans hw266_0))⟩ (fun hHeld => ?_)
         clear hK K
         refine no_ 34 ?_
         refine on_ 13 (some 35) (bl 15 16383) HT_ (fun K hK => ?_)
         refine Kd.R_append_step (Kd.slice 2 (Kd.int .i64)) (w0 := w) w.heap.size (by rfl) (.tmp 22) (.tmp 34) 35 22 (.slice none 0 0) 24 rfl Try.underlying35 info22 rfl (by decide) (by omega) (.slice (some ad264) x3_1.length co17) x3_1 t267 [.slice Ao23 t267.length co23] (fun k_ => (w.heap.size ≤ k_) ∧ k_ ≠ gb256) (fun k_ => ((fun k_ => (w.heap.size ≤ k_) ∧ k_ ≠ gb256)) k_ ∧ some k_ ≠ (.slice (some ad264) x3_1.length co17 : Value).ownBlock) rfl rfl ?aP (fun _ hk => hk) ?aF ?aO ?aB ?aS ?aL ?_
         (case aP => exact ⟨_, rfl, (Kd.R_mono (ok' := (fun k_ => ((fun k_ => (w.heap.size ≤ k_) ∧ k_ ≠ gb256)) k_ ∧ some k_ ≠ (.slice (some ad264) x3_1.length co17 : Value).ownBlock)) (Kd.R_types (Kd.R_apart' (HO269.out) (Kd.R_typed HO_3.out) (by decide)) BK256.out (by decide)) (fun k_ hk => ⟨⟨hk.1.1.1, hk.2⟩, hk.1.2⟩))⟩)
         (case aB => exact (uH HB.out))
         (case aF => exact (fun k_ hk => ⟨(Nat.le_trans (below_size (uH HB.out)) hk), Kd.freshB (g := gb256) (o := .cells #[.int .i64 a0_0, .slice (some ad263) l0_1.length c0_1, .slice (some ad266) l0_2.length c0_2] 28 (0, 0)) (uB BK256.out) k_ hk⟩))
         (case aO => exact (by (with_reducible repeat (first | apply Kd.R_alloc | apply Kd.R_drewN | apply Kd.R_drew)); exact Kd.R_mono HO_3.out (fun _ hk => ⟨hk.1.1, hk.1.2⟩)))
         (case aS => exact (below_size (uH HB.out)))
         (case aL => have := LMc16.out; omega)
         intro v271 w22 ho hb hg hat
         rw [← Ny270.out] at ho
         have n0_ := zA (Kd.V_afterv (ok := (fun k_ => (w.heap.size ≤ k_) ∧ some k_ ≠ (.slice Ao23 t267.length co23 : Value).ownBlock ∧ k_ ≠ gb256)) (by (with_reducible repeat (first | apply Kd.V_alloc | apply Kd.V_drewN | apply Kd.V_drew)); exact Kd.V_mono HO_4.out (fun _ hk => ⟨⟨hk.1.1, ⟨hk.2, hk.1.2.2⟩⟩, hk.1.2.1⟩)) hg hat)
         have n1_ := zA (blk_grown (g := gb256) (o := .cells #[.int .i64 a0_0, .slice (some ad263) l0_1.length c0_1, .slice (some ad266) l0_2.length c0_2] 28 (0, 0)) (uB BK256.out) hg (Kd.R_ne HO_3.out BK256.out (by decide)))
         have n2_ := zA (Kd.V_afterv (ok := (fun k_ => (w.heap.size ≤ k_) ∧ some k_ ≠ (.slice Ao23 t267.length co23 : Value).ownBlock ∧ k_ ≠ gb256)) (by (with_reducible repeat (first | apply Kd.V_alloc | apply Kd.V_drewN | apply Kd.V_drew)); exact Kd.V_mono HL264_0.out (fun _ hk => ⟨⟨hk.1.1.1, ⟨hk.2, hk.1.1.2⟩⟩, hk.1.2⟩)) hg hat)
         have n3_ := zA (hb)
         have n4_ := zA (ho)
         clear HO_4 BK256 HL264_0 HB HO_3 HO269
         have HO_4 := n0_; have BK256 := n1_; have HL264_0 := n2_; have HB := n3_; have HO272 := n4_
         clear n0_ n1_ n2_ n3_ n4_
         clear ho hb hg hat
         refine hK.out _ _ ⟨(blk_cell BK256.out 0).trans rfl, (blk_cell BK256.out 1).trans rfl, (blk_cell BK256.out 2).trans rfl, ((HB.out.cell (World.block_lt_of_cell? w _ hw266_0)).trans hw266_0)⟩ (fun hHeld => ?_)
         clear hK K
         refine no_ 35 ?_
         refine pu_ 14 3 (bl 15 32767) HT_ ?_
         refine done_ (done_of HT_.out (by kernel_rfl)) ?_
         try go_wp2
         go_roundg k1
         case measure => have := HK1.out; omega
         case rel => exact ⟨(y270), (rd_L1 x3_1 x13_1), (wrap64 (x13_1 + 1)), (by first | rfl | (simp; done) | (simp [*]; done)), H', ⟨by have := HK1.out; omega⟩, ⟨by (with_reducible repeat (first | apply Kd.R_alloc | apply Kd.R_drewN | apply Kd.R_drew)); exact HO272.out⟩, ⟨by (with_reducible repeat (first | apply Kd.V_alloc | apply Kd.V_drewN | apply Kd.V_drew)); exact Kd.V_mono HL264_0.out (fun _ hk => ⟨hk.1.1, ⟨hk.2, hk.1.2.2⟩⟩)⟩, ⟨uB BK256.out⟩, ⟨uH HB.out⟩⟩
        ·rw [if_neg c16] at H
         exact absurd H (by simp)
       ·rw [if_neg c14] at H
        exact absurd H (by simp)
      ·rw [if_neg c12] at H
       exact absurd H (by simp)
     ·rw [if_neg c11] at H
      exact absurd H (by simp)
    ·rw [if_neg c10] at H
     exact absurd H (by simp)
   ·rw [if_neg c9] at H
    have c9b0 : decide (x13_1 < (l0_1.length : Int)) = false := decide_eq_false c9
    clear c9
    obtain rfl := Option.some.inj H
    go_wp2
    go_ret
    exact ⟨_, by first | rfl | (simp [errW_none, errW_some] <;> rfl) | (simp [*, errW_none, errW_some] <;> rfl), by (with_reducible repeat (first | apply Kd.R_alloc | apply Kd.R_drewN | apply Kd.R_drew)); exact Kd.R_mono HO_3.out (fun _ hk => hk.1), uH HB.out⟩
/-! ### impl_PolyOf: function 13 -/
def impl_PolyOf.f (k : Nat) (a0_0 : Int) (l0_1 : List Int) (l0_2 : List Int) (a1 : Int) : Option (List Int × Int) := (impl_Jacobi_size.f a0_0 l0_1 l0_2).bind fun t274 => ((impl_within.f a1 0 t274).bind fun t275 => ((impl_jacobiCode.f k a0_0 l0_1 l0_2 t275).bind fun t276 => (if t276 = 0 then ((impl_Jacobi_polys.f k a0_0 l0_1 l0_2).bind fun t277 => (if 0 ≤ a1 then (if a1 < (t277.length : Int) then (some (rd_L1 t277 a1, 0)) else (none)) else (none))) else (some (([] : List Int), t276)))))
theorem impl_PolyOf.mono : ∀ a0 a1 a2 a3 k, LeO (impl_PolyOf.f k a0 a1 a2 a3) (impl_PolyOf.f (k + 1) a0 a1 a2 a3) := by
 intro a0 a1 a2 a3 k
 unfold impl_PolyOf.f
 repeat' first
   | (with_reducible exact impl_Jacobi_polys.mono _ _ _ _)
   | (with_reducible exact impl_jacobiCode.mono _ _ _ _ _)
   | (with_reducible exact LeO.refl _)
   | (with_reducible exact LeO.none _)
   | (with_reducible refine LeO.ite ?_ ?_)
   | (with_reducible refine LeO.bind ?_ (fun _ => ?_))
   | exact impl_Jacobi_polys.mono _ _ _ _
   | exact impl_jacobiCode.mono _ _ _ _ _
   | exact LeO.none _
   | refine LeO.ite ?_ ?_
   | refine LeO.bind ?_ (fun _ => ?_)
set_option maxHeartbeats 8000000 in
set_option maxRecDepth 100000 in
theorem impl_PolyOf.calls (k : Nat) (a0_0 : Int) (A0_1 : Option Addr) (c0_1 : Nat) (l0_1 : List Int) (A0_2 : Option Addr) (c0_2 : Nat) (l0_2 : List Int) (a1 : Int) (r1 : List Int) (r2 : Int) (w : World) (hr0_1 : Kd.C (Kd.int .i64) w A0_1 l0_1.length l0_1) (hc0_1 : l0_1.length ≤ c0_1) (hr0_2 : Kd.C (Kd.int .i64) w A0_2 l0_2.length l0_2) (hc0_2 : l0_2.length ≤ c0_2) (h : impl_PolyOf.f k a0_0 l0_1 l0_2 a1 = some (r1, r2)) :
  Calls Try.prog 13 #[.agg #[.int .i64 a0_0, .slice A0_1 l0_1.length c0_1, .slice A0_2 l0_2.length c0_2], .int .i64 a1] w fun e w' => ∃ v0_ : Value, e = .returned (.tuple #[v0_, .int .i64 r2]) ∧ Kd.R (Kd.int .i64) 2 w' w.heap.size (fun _ => True) v0_ r1 ∧ Below w.heap.size w w' := by
 have hu28 := Try.underlying28
 have HR0_1 := zA hr0_1
 have HC0_1 := zA hc0_1
 clear hr0_1 hc0_1
 have HR0_2 := zA hr0_2
 have HC0_2 := zA hc0_2
 clear hr0_2 hc0_2
 have HB := zA (Below.refl w.heap.size w)
 have H : ((impl_Jacobi_size.f a0_0 l0_1 l0_2).bind fun t274 => ((impl_within.f a1 0 t274).bind fun t275 => ((impl_jacobiCode.f k a0_0 l0_1 l0_2 t275).bind fun t276 => (if t276 = 0 then ((impl_Jacobi_polys.f k a0_0 l0_1 l0_2).bind fun t277 => (if 0 ≤ a1 then (if a1 < (t277.length : Int) then (some (rd_L1 t277 a1, 0)) else (none)) else (none))) else (some (([] : List Int), t276)))))) = some (r1, r2) := h
 clear h
 replace H := Option.bind_eq_some_iff.mp H
 obtain ⟨t274, A30, H⟩ := H
 replace H : ((impl_within.f a1 0 t274).bind fun t275 => ((impl_jacobiCode.f k a0_0 l0_1 l0_2 t275).bind fun t276 => (if t276 = 0 then ((impl_Jacobi_polys.f k a0_0 l0_1 l0_2).bind fun t277 => (if 0 ≤ a1 then (if a1 < (t277.length : Int) then (some (rd_L1 t277 a1, 0)) else (none)) else (none))) else (some (([] : List Int), t276))))) = some (r1, r2) := H
 have A3 := zA A30
 clear A30
 replace H := Option.bind_eq_some_iff.mp H
 obtain ⟨t275, A40, H⟩ := H
 replace H : ((impl_jacobiCode.f k a0_0 l0_1 l0_2 t275).bind fun t276 => (if t276 = 0 then ((impl_Jacobi_polys.f k a0_0 l0_1 l0_2).bind fun t277 => (if 0 ≤ a1 then (if a1 < (t277.length : Int) then (some (rd_L1 t277 a1, 0)) else (none)) else (none))) else (some (([] : List Int), t276)))) = some (r1, r2) := H
 have A4 := zA A40
 clear A40
 replace H := Option.bind_eq_some_iff.mp H
 obtain ⟨t276, A50, H⟩ := H
 replace H : (if t276 = 0 then ((impl_Jacobi_polys.f k a0_0 l0_1 l0_2).bind fun t277 => (if 0 ≤ a1 then (if a1 < (t277.length : Int) then (some (rd_L1 t277 a1, 0)) else (none)) else (none))) else (some (([] : List Int), t276))) = some (r1, r2) := H
 have A5 := zA A50
 clear A50
 by_cases c6 : t276 = 0
 ·rw [if_pos c6] at H
  have c6b0 : (t276 == 0) = true := beq_iff_eq.mpr c6
  have c6b1 : (t276 != 0) = false := bne_eq_false_iff_eq.mpr c6
  clear c6
  replace H := Option.bind_eq_some_iff.mp H
  obtain ⟨t277, A70, H⟩ := H
  replace H : (if 0 ≤ a1 then (if a1 < (t277.length : Int) then (some (rd_L1 t277 a1, 0)) else (none)) else (none)) = some (r1, r2) := H
  have A7 := zA A70
  clear A70
  by_cases c8 : 0 ≤ a1
  ·rw [if_pos c8] at H
   have c8b0 : decide (0 ≤ a1) = true := decide_eq_true c8
   clear c8
   by_cases c9 : a1 < (t277.length : Int)
   ·rw [if_pos c9] at H
    have c9b0 : decide (a1 < (t277.length : Int)) = true := decide_eq_true c9
    clear c9
    simp only [Option.some.injEq, Prod.mk.injEq] at H
    obtain ⟨rfl, rfl⟩ := H
    go_enter Try.func13, Try.ntmps13
    try go_wp2_with (first | ((with_reducible refine gate_dst (N := 2) rfl ?_); refine box_event ?hg (N := 2) ?hd (cs := #[.int .i64 a0_0, .slice A0_1 l0_1.length c0_1, .slice A0_2 l0_2.length c0_2]) (t := 28) ?hr ?_; (case hd => rfl); (case hg => rfl); (case hr => first | (go_simp; done) | (go_simp; rfl)); intro gb273 hg w10 hbox hb; have n0_ := xH HB hb; have n1_ := zA (hbox); have n2_ := zA ((by rw [hg]; exact (below_size (uH HB.out)) : w.heap.size ≤ gb273)); have n3_ := zA ((by rw [hg]; exact (below_size (uH HB.out)) : w.heap.size ≤ gb273)); clear HB; have HB := n0_; have BK273 := n1_; have GW273 := n2_; have GE273 := n3_; have := geI GE273; clear n0_ n1_ n2_ n3_ hb hbox hg))
    have n0_ := zA (blk_drew BK273.out)
    have n1_ := zA (below_drew1 HB.out)
    clear BK273 HB
    have BK273 := n0_; have HB := n1_
    clear n0_ n1_
    refine start_ (n := 7) (S := fun w' => w'.cell? ⟨gb273, 0, none⟩ = some (.int .i64 a0_0) ∧ w'.cell? ⟨gb273, 1, none⟩ = some (.slice A0_1 l0_1.length c0_1) ∧ w'.cell? ⟨gb273, 2, none⟩ = some (.slice A0_2 l0_2.length c0_2)) (ds := []) #[false, false, false, false, false, false, false] (by kernel_rfl) rfl rfl ⟨(blk_cell BK273.out 0).trans rfl, (blk_cell BK273.out 1).trans rfl, (blk_cell BK273.out 2).trans rfl⟩ (fun hHeld => ?_)
    generalize w10.drew = w11 at BK273 HB hHeld ⊢
    refine pure_ (i := 1) (N := some 8) (v := ?_) (a' := ?_) (bl 7 2) rfl rfl (by kernel_rfl) (fun _ _ _ h => h) (Or.inl ⟨by rfl, ?_⟩) ?_ ?_
    rotate_left
    ·intro w'
     go_simp
     with_reducible rfl
    rotate_left
    ·simp only [Act.put, ls, lz, ln, i64_w, i32_w]
     rfl
    refine take_ (i := 0) (N := some 7) (v := ?_) (a' := ?_) (bl 7 3) rfl rfl (by kernel_rfl) (fun _ _ _ h => h) (Or.inl ⟨by rfl, ?_⟩) hHeld ?_ ?_
    rotate_left
    ·rintro w' ⟨s0, s1, s2⟩
     go_simp
     with_reducible rfl
    rotate_left
    ·simp only [Act.put, ls, lz, ln, i64_w, i32_w]
     rfl
    refine take_ (i := 2) (N := some 9) (v := ?_) (a' := ?_) (bl 7 7) rfl rfl (by kernel_rfl) (fun _ _ _ h => h) (Or.inl ⟨by rfl, ?_⟩) hHeld ?_ ?_
    rotate_left
    ·rintro w' ⟨s0, s1, s2⟩
     go_simp
     with_reducible rfl
    rotate_left
    ·simp only [Act.put, ls, lz, ln, i64_w, i32_w]
     rfl
    refine one_ (i := 3) (N := some 10) (bl 7 15) rfl rfl (by kernel_rfl) (by decide) (fun K hK => ?_)
    refine goes_ Try.func50 (by kernel_rfl) rfl #[.agg #[.int .i64 a0_0, .slice A0_1 l0_1.length c0_1, .slice A0_2 l0_2.length c0_2]] (by rfl) rfl rfl (by (try simp only [la, lb, lc]); first | done | rfl | (simp only [ld, le]; rfl)) ?_
    with_reducible refine (impl_Jacobi_size.calls a0_0 _ _ l0_1 _ _ l0_2 t274 _ ?side1 ?side2 ?side3 ?side4 A3.out).mono ?_
    (case side1 => exact uC ((Kd.C_below HR0_1.out HB.out)))
    (case side2 => exact HC0_1.out)
    (case side3 => exact uC ((Kd.C_below HR0_2.out HB.out)))
    (case side4 => exact HC0_2.out)
    rintro e w12 ⟨rfl, hb⟩
    refine ⟨_, rfl, ?_⟩
    have n0_ := xB BK273 hb
    have n1_ := xH HB hb
    clear BK273 HB
    have BK273 := n0_; have HB := n1_
    clear n0_ n1_
    (try clear hb); (try clear hb2); (try clear hk); (try clear hi)
    refine hK.out _ _ ⟨(blk_cell BK273.out 0).trans rfl, (blk_cell BK273.out 1).trans rfl, (blk_cell BK273.out 2).trans rfl⟩ (fun hHeld => ?_)
    clear hK K
    refine no_ 10 ?_
    refine one_ (i := 4) (N := some 11) (bl 7 31) rfl rfl (by kernel_rfl) (by decide) (fun K hK => ?_)
    refine goes_ Try.func49 (by kernel_rfl) rfl #[.int .i64 a1, .int .i64 0, .int .i64 t274] (by rfl) rfl rfl (by (try simp only [la, lb, lc]); first | done | rfl | (simp only [ld, le]; rfl)) ?_
    with_reducible refine (impl_within.calls a1 0 t274 t275 _ A4.out).mono ?_
    rintro e w' ⟨rfl, ⟨nd, rfl⟩⟩
    refine ⟨_, rfl, ?_⟩
    refine hK.out _ _ ⟨(blk_cell BK273.out 0).trans rfl, (blk_cell BK273.out 1).trans rfl, (blk_cell BK273.out 2).trans rfl⟩ (fun hHeld => ?_)
    clear hK K
    refine no_ 11 ?_
    refine one_ (i := 5) (N := some 12) (bl 7 63) rfl rfl (by kernel_rfl) (by decide) (fun K hK => ?_)
    refine goes_ Try.func48 (by kernel_rfl) rfl #[.agg #[.int .i64 a0_0, .slice A0_1 l0_1.length c0_1, .slice A0_2 l0_2.length c0_2], .bool t275] (by rfl) rfl rfl (by (try simp only [la, lb, lc]); first | done | rfl | (simp only [ld, le]; rfl)) ?_
    with_reducible refine (impl_jacobiCode.calls k a0_0 _ _ l0_1 _ _ l0_2 t275 t276 _ ?side1 ?side2 ?side3 ?side4 A5.out).mono ?_
    (case side1 => repeat (first | exact (Kd.C_below HR0_1.out (uH HB.out)) | (with_reducible refine Kd.C_alloc ?_ _) | (with_reducible refine Kd.C_drewN ?_ _) | (with_reducible refine Kd.C_drew ?_)))
    (case side2 => exact HC0_1.out)
    (case side3 => repeat (first | exact (Kd.C_below HR0_2.out (uH HB.out)) | (with_reducible refine Kd.C_alloc ?_ _) | (with_reducible refine Kd.C_drewN ?_ _) | (with_reducible refine Kd.C_drew ?_)))
    (case side4 => exact HC0_2.out)
    rintro e w13 ⟨rfl, hb⟩
    refine ⟨_, rfl, ?_⟩
    have n0_ := xB BK273 hb
    have n1_ := xH HB hb
    clear BK273 HB
    have BK273 := n0_; have HB := n1_
    clear n0_ n1_
    (try clear hb); (try clear hb2); (try clear hk); (try clear hi)
    refine hK.out _ _ ⟨(blk_cell BK273.out 0).trans rfl, (blk_cell BK273.out 1).trans rfl, (blk_cell BK273.out 2).trans rfl⟩ (fun hHeld => ?_)
    clear hK K
    refine no_ 12 ?_
    refine pure_ (i := 6) (N := some 6) (v := ?_) (a' := ?_) (bl 7 127) rfl rfl (by kernel_rfl) (fun _ _ _ h => h) (Or.inl ⟨by rfl, ?_⟩) ?_ ?_
    rotate_left
    ·intro w'
     go_simp
     with_reducible rfl
    rotate_left
    ·simp only [Act.put, ls, lz, ln, i64_w, i32_w]
     rfl
    refine done_ (by kernel_rfl) ?_
    have hcz14_0 : w13.cell? ⟨gb273, 0, none⟩ = some (.int .i64 a0_0) := (blk_cell BK273.out 0).trans rfl
    have hcz14_1 : w13.cell? ⟨gb273, 1, none⟩ = some (.slice A0_1 l0_1.length c0_1) := (blk_cell BK273.out 1).trans rfl
    have hcz14_2 : w13.cell? ⟨gb273, 2, none⟩ = some (.slice A0_2 l0_2.length c0_2) := (blk_cell BK273.out 2).trans rfl
    have hfz14_0 := blk_frozen BK273.out 0
    have hfz14_1 := blk_frozen BK273.out 1
    have hfz14_2 := blk_frozen BK273.out 2
    try go_wp2_with (first | ((with_reducible refine gate_callee (f := 51) rfl ?_); refine goesL_ (some 17) rfl rfl Try.func51 (by kernel_rfl) rfl #[.agg #[.int .i64 a0_0, .slice A0_1 l0_1.length c0_1, .slice A0_2 l0_2.length c0_2]] rfl (by (try simp only [la, lb, lc]); first | done | rfl | (simp only [ld, le]; rfl)) ?_; (with_reducible refine (impl_Jacobi_polys.callsR k a0_0 _ _ l0_1 _ _ l0_2 t277 _ ?side1 ?side2 ?side3 ?side4 A7.out).mono ?_); (case side1 => exact uC ((Kd.C_below HR0_1.out HB.out))); (case side2 => exact HC0_1.out); (case side3 => exact uC ((Kd.C_below HR0_2.out HB.out))); (case side4 => exact HC0_2.out); rintro e w15 ⟨v278, rfl, ho0, hb⟩; refine ⟨_, rfl, ?_⟩; have n0_ := zA (Kd.R_lower (Kd.R_mono (ok' := fun k_ => (w.heap.size ≤ k_) ∧ k_ ≠ gb273) ho0 (fun k_ hk_ => ⟨(Nat.le_trans (below_size (uH HB.out)) hk_), (Kd.freshB (g := gb273) (o := .cells #[.int .i64 a0_0, .slice A0_1 l0_1.length c0_1, .slice A0_2 l0_2.length c0_2] 28 (0, 0)) (uB BK273.out) k_ hk_)⟩)) (below_size (uH HB.out))); have n1_ := xB BK273 hb; have n2_ := xH HB hb; clear BK273 HB; have HO279 := n0_; have BK273 := n1_; have HB := n2_; clear n0_ n1_ n2_; (try clear hb); (try clear hb2); (try clear hk); (try clear hi); (try clear ho0); obtain ⟨Ao16, co16, eo16⟩ := Kd.R_slice HO279.out; subst eo16; have p280 : 0 ≤ (a1 : Int) := of_decide_eq_true (by first | (with_reducible assumption) | assumption); have q280 : a1 < (t277.length : Int) := of_decide_eq_true (by first | (with_reducible assumption) | assumption); obtain ⟨ad280, A280_0, c280_0, e280, hx280_0, hl280_0, hi280_0⟩ := at_L1 (Kd.R_reads' HO279.out).2.2 a1 p280 q280; cases e280; have HL280_0 := zA (R_elemA HO279.out a1 p280 q280 hx280_0); have HR280_0 := zA hi280_0; have HC280_0 := zA hl280_0; clear hi280_0 hl280_0; replace p280 := eq_true p280; replace q280 := eq_true q280))
    go_ret2
    exact ⟨_, by first | rfl | (simp [errW_none, errW_some] <;> rfl) | (simp [*, errW_none, errW_some] <;> rfl), uR (Kd.R_mono HL280_0.out (fun _ _ => trivial)), uH HB.out⟩
   ·rw [if_neg c9] at H
    exact absurd H (by simp)
  ·rw [if_neg c8] at H
   exact absurd H (by simp)
 ·rw [if_neg c6] at H
  have c6b0 : (t276 == 0) = false := beq_eq_false_iff_ne.mpr c6
  have c6b1 : (t276 != 0) = true := bne_iff_ne.mpr c6
  simp only [Option.some.injEq, Prod.mk.injEq] at H
  obtain ⟨rfl, rfl⟩ := H
  go_enter Try.func13, Try.ntmps13
  try go_wp2_with (first | ((with_reducible refine gate_dst (N := 2) rfl ?_); refine box_event ?hg (N := 2) ?hd (cs := #[.int .i64 a0_0, .slice A0_1 l0_1.length c0_1, .slice A0_2 l0_2.length c0_2]) (t := 28) ?hr ?_; (case hd => rfl); (case hg => rfl); (case hr => first | (go_simp; done) | (go_simp; rfl)); intro gb273 hg w17 hbox hb; have n0_ := xH HB hb; have n1_ := zA (hbox); have n2_ := zA ((by rw [hg]; exact (below_size (uH HB.out)) : w.heap.size ≤ gb273)); have n3_ := zA ((by rw [hg]; exact (below_size (uH HB.out)) : w.heap.size ≤ gb273)); clear HB; have HB := n0_; have BK273 := n1_; have GW273 := n2_; have GE273 := n3_; have := geI GE273; clear n0_ n1_ n2_ n3_ hb hbox hg))
  have n0_ := zA (blk_drew BK273.out)
  have n1_ := zA (below_drew1 HB.out)
  clear BK273 HB
  have BK273 := n0_; have HB := n1_
  clear n0_ n1_
  refine start_ (n := 7) (S := fun w' => w'.cell? ⟨gb273, 0, none⟩ = some (.int .i64 a0_0) ∧ w'.cell? ⟨gb273, 1, none⟩ = some (.slice A0_1 l0_1.length c0_1) ∧ w'.cell? ⟨gb273, 2, none⟩ = some (.slice A0_2 l0_2.length c0_2)) (ds := []) #[false, false, false, false, false, false, false] (by kernel_rfl) rfl rfl ⟨(blk_cell BK273.out 0).trans rfl, (blk_cell BK273.out 1).trans rfl, (blk_cell BK273.out 2).trans rfl⟩ (fun hHeld => ?_)
  generalize w17.drew = w18 at BK273 HB hHeld ⊢
  refine pure_ (i := 1) (N := some 8) (v := ?_) (a' := ?_) (bl 7 2) rfl rfl (by kernel_rfl) (fun _ _ _ h => h) (Or.inl ⟨by rfl, ?_⟩) ?_ ?_
  rotate_left
  ·intro w'
   go_simp
   with_reducible rfl
  rotate_left
  ·simp only [Act.put, ls, lz, ln, i64_w, i32_w]
   rfl
  refine take_ (i := 0) (N := some 7) (v := ?_) (a' := ?_) (bl 7 3) rfl rfl (by kernel_rfl) (fun _ _ _ h => h) (Or.inl ⟨by rfl, ?_⟩) hHeld ?_ ?_
  rotate_left
  ·rintro w' ⟨s0, s1, s2⟩
   go_simp
   with_reducible rfl
  rotate_left
  ·simp only [Act.put, ls, lz, ln, i64_w, i32_w]
   rfl
  refine take_ (i := 2) (N := some 9) (v := ?_) (a' := ?_) (bl 7 7) rfl rfl (by kernel_rfl) (fun _ _ _ h => h) (Or.inl ⟨by rfl, ?_⟩) hHeld ?_ ?_
  rotate_left
  ·rintro w' ⟨s0, s1, s2⟩
   go_simp
   with_reducible rfl
  rotate_left
  ·simp only [Act.put, ls, lz, ln, i64_w, i32_w]
   rfl
  refine one_ (i := 3) (N := some 10) (bl 7 15) rfl rfl (by kernel_rfl) (by decide) (fun K hK => ?_)
  refine goes_ Try.func50 (by kernel_rfl) rfl #[.agg #[.int .i64 a0_0, .slice A0_1 l0_1.length c0_1, .slice A0_2 l0_2.length c0_2]] (by rfl) rfl rfl (by (try simp only [la, lb, lc]); first | done | rfl | (simp only [ld, le]; rfl)) ?_
  with_reducible refine (impl_Jacobi_size.calls a0_0 _ _ l0_1 _ _ l0_2 t274 _ ?side1 ?side2 ?side3 ?side4 A3.out).mono ?_
  (case side1 => exact uC ((Kd.C_below HR0_1.out HB.out)))
  (case side2 => exact HC0_1.out)
  (case side3 => exact uC ((Kd.C_below HR0_2.out HB.out)))
  (case side4 => exact HC0_2.out)
  rintro e w19 ⟨rfl, hb⟩
  refine ⟨_, rfl, ?_⟩
  have n0_ := xB BK273 hb
  have n1_ := xH HB hb
  clear BK273 HB
  have BK273 := n0_; have HB := n1_
  clear n0_ n1_
  (try clear hb); (try clear hb2); (try clear hk); (try clear hi)
  refine hK.out _ _ ⟨(blk_cell BK273.out 0).trans rfl, (blk_cell BK273.out 1).trans rfl, (blk_cell BK273.out 2).trans rfl⟩ (fun hHeld => ?_)
  clear hK K
  refine no_ 10 ?_
  refine one_ (i := 4) (N := some 11) (bl 7 31) rfl rfl (by kernel_rfl) (by decide) (fun K hK => ?_)
  refine goes_ Try.func49 (by kernel_rfl) rfl #[.int .i64 a1, .int .i64 0, .int .i64 t274] (by rfl) rfl rfl (by (try simp only [la, lb, lc]); first | done | rfl | (simp only [ld, le]; rfl)) ?_
  with_reducible refine (impl_within.calls a1 0 t274 t275 _ A4.out).mono ?_
  rintro e w' ⟨rfl, ⟨nd, rfl⟩⟩
  refine ⟨_, rfl, ?_⟩
  refine hK.out _ _ ⟨(blk_cell BK273.out 0).trans rfl, (blk_cell BK273.out 1).trans rfl, (blk_cell BK273.out 2).trans rfl⟩ (fun hHeld => ?_)
  clear hK K
  refine no_ 11 ?_
  refine one_ (i := 5) (N := some 12) (bl 7 63) rfl rfl (by kernel_rfl) (by decide) (fun K hK => ?_)
  refine goes_ Try.func48 (by kernel_rfl) rfl #[.agg #[.int .i64 a0_0, .slice A0_1 l0_1.length c0_1, .slice A0_2 l0_2.length c0_2], .bool t275] (by rfl) rfl rfl (by (try simp only [la, lb, lc]); first | done | rfl | (simp only [ld, le]; rfl)) ?_
  with_reducible refine (impl_jacobiCode.calls k a0_0 _ _ l0_1 _ _ l0_2 t275 t276 _ ?side1 ?side2 ?side3 ?side4 A5.out).mono ?_
  (case side1 => repeat (first | exact (Kd.C_below HR0_1.out (uH HB.out)) | (with_reducible refine Kd.C_alloc ?_ _) | (with_reducible refine Kd.C_drewN ?_ _) | (with_reducible refine Kd.C_drew ?_)))
  (case side2 => exact HC0_1.out)
  (case side3 => repeat (first | exact (Kd.C_below HR0_2.out (uH HB.out)) | (with_reducible refine Kd.C_alloc ?_ _) | (with_reducible refine Kd.C_drewN ?_ _) | (with_reducible refine Kd.C_drew ?_)))
  (case side4 => exact HC0_2.out)
  rintro e w20 ⟨rfl, hb⟩
  refine ⟨_, rfl, ?_⟩
  have n0_ := xB BK273 hb
  have n1_ := xH HB hb
  clear BK273 HB
  have BK273 := n0_; have HB := n1_
  clear n0_ n1_
  (try clear hb); (try clear hb2); (try clear hk); (try clear hi)
  refine hK.out _ _ ⟨(blk_cell BK273.out 0).trans rfl, (blk_cell BK273.out 1).trans rfl, (blk_cell BK273.out 2).trans rfl⟩ (fun hHeld => ?_)
  clear hK K
  refine no_ 12 ?_
  refine pure_ (i := 6) (N := some 6) (v := ?_) (a' := ?_) (bl 7 127) rfl rfl (by kernel_rfl) (fun _ _ _ h => h) (Or.inl ⟨by rfl, ?_⟩) ?_ ?_
  rotate_left
  ·intro w'
   go_simp
   with_reducible rfl
  rotate_left
  ·simp only [Act.put, ls, lz, ln, i64_w, i32_w]
   rfl
  refine done_ (by kernel_rfl) ?_
  try go_wp2
  go_ret2
  exact ⟨_, by first | rfl | (simp [errW_none, errW_some] <;> rfl) | (simp [*, errW_none, errW_some] <;> rfl), Kd.R_nil _ _ _ _ _, uH HB.out⟩
/- PolyOf: for all arguments the program and the reference come to one value; no condition. -/
theorem PolyOf_both (p : Int) (a b : List Int) (k : Int) (ha : Sm a.length) (hb : Sm b.length) :
    ∃ v : List Int × Int, Ev (fun n => spec_PolyOf.f n p a b k) v ∧ Ev (fun n => impl_PolyOf.f n p a b k) v ∧ Sm v.1.length := by
  have hs := specJacCode_ev p a b k 0 (a.length : Int) ha hb
  have hi := implJacCode_ev p a b (decide (0 ≤ k ∧ k ≤ (a.length : Int))) ha hb
  by_cases h : jacC p a b (decide (0 ≤ k ∧ k ≤ (a.length : Int))) = 0
  · obtain ⟨h1, h2⟩ := jacC0 h
    have h3 := of_decide_eq_true h2
    obtain ⟨⟨⟨h4, h5⟩, h6⟩, h7, h8⟩ := jacB.all h1
    have hp := jacB.pm h1
    obtain ⟨i, rfl⟩ : ∃ i : Nat, k = (i : Int) := ⟨k.toNat, by omega⟩
    have o1 := pPair_ok hp a b i
    have l1 := o1.2.2
    refine ⟨((pPair p a b i).2, 0), ?_, ?_, by dsimp only; unfold Sm; omega⟩
    · unfold spec_PolyOf.f
      exact Ev.bind hs (Ev.pos h (Ev.bind (specPoly03_ev hp a b h7 h8.nm i (by omega) h5 h6) (Ev.now _)))
    · unfold impl_PolyOf.f
      refine Ev.bindE (size_eq p a b) (Ev.bindE (within_eq _ _ _) (Ev.bind hi (Ev.pos h (Ev.bind (implPolys_ev hp a b h7 h8.nm h5 h6) ?_))))
      rw [pAll_len, pAll_rd p a b (by omega)]
      exact Ev.pos (by omega) (Ev.pos (by omega) (Ev.now _))
  · refine ⟨([], jacC p a b (decide (0 ≤ k ∧ k ≤ (a.length : Int)))), ?_, ?_, Sm0⟩
    · unfold spec_PolyOf.f
      exact Ev.bind hs (Ev.neg h (Ev.now _))
    · unfold impl_PolyOf.f
      exact Ev.bindE (size_eq p a b) (Ev.bindE (within_eq _ _ _) (Ev.bind hi (Ev.neg h (Ev.now _))))
end Go.Proofs.Ytijkfbnjcebfaaa.Pr
