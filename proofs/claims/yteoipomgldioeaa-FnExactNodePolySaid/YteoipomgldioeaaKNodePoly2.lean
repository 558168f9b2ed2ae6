/- Texts of this session in one: what functions of the program compute, and plain facts of it, under the conditions that each theorem names. -/
import Derived.Test.YteoipomgldioeaaKFspecl01Times
import Derived.Test.YteoipomgldioeaaKFspecl07Is
import Derived.Test.YteoipomgldioeaaKC01
import Derived.Test.YteoipomgldioeaaKC03
import Derived.Test.YteoipomgldioeaaKC05
import Derived.Test.YteoipomgldioeaaKNodePoly1
/- Printed by a program of this session out of the translation: what these functions of the program compute, under the conditions that each theorem names. -/
namespace Go.Proofs.Yteoipomgldioeaa.Pr
open Go.RowKit Go.Proofs.YteoipomgldioeaaW.PrintWords Go.Proofs.YteoipomgldioeaaW.PrintLast Go.Proofs.YteoipomgldioeaaW.PrintMore
attribute [local go_sem] max2_int min2_int max_two min_two max_three min_three max_four min_four   -- for this text's walks alone
set_option linter.unusedVariables false
set_option linter.unusedSimpArgs false

/-! ### spec_l07Nodes: function 58 -/
def spec_l07Nodes.l0 : Nat → Int → List Int → List Int → Int → Option (List Int)
 | 0, _, _, _, _ => none
 | k + 1, x0, x1, x5, x6 => if x6 < (x1.length : Int) then (if 0 ≤ x6 then ((spec_l01Mod.f x0 (wrap64 (-(rd x1 x6)))).bind fun t323 => ((spec_l01Times.f k x0 x5 (([t323, 1] : List Int))).bind fun t327 => (spec_l07Nodes.l0 k x0 x1 t327 (wrap64 (x6 + 1))))) else (none)) else (some x5)
def spec_l07Nodes.f (k : Nat) (a0 : Int) (l1 : List Int) : Option (List Int) := spec_l07Nodes.l0 k a0 l1 (([1] : List Int)) 0
theorem spec_l07Nodes.mono_l : ∀ k, (∀ y0 y1 y2 y3, LeO (spec_l07Nodes.l0 k y0 y1 y2 y3) (spec_l07Nodes.l0 (k + 1) y0 y1 y2 y3))
 | 0 => fun _ _ _ _ r h => by simp [spec_l07Nodes.l0] at h
 | k + 1 => by
  have ih0 := spec_l07Nodes.mono_l k
  ·intro y0 y1 y2 y3
   unfold spec_l07Nodes.l0
   repeat' first
   | (with_reducible exact ih0 _ _ _ _)
   | (with_reducible exact spec_l01Times.mono _ _ _ _)
   | (with_reducible exact LeO.refl _)
   | (with_reducible exact LeO.none _)
   | (with_reducible refine LeO.ite ?_ ?_)
   | (with_reducible refine LeO.bind ?_ (fun _ => ?_))
   | exact ih0 _ _ _ _
   | exact spec_l01Times.mono _ _ _ _
   | exact LeO.none _
   | refine LeO.ite ?_ ?_
   | refine LeO.bind ?_ (fun _ => ?_)
theorem spec_l07Nodes.mono : ∀ a0 a1 k, LeO (spec_l07Nodes.f k a0 a1) (spec_l07Nodes.f (k + 1) a0 a1) := by
 intro a0 a1 k
 have ih0 := spec_l07Nodes.mono_l k
 unfold spec_l07Nodes.f
 repeat' first
   | (with_reducible exact ih0 _ _ _ _)
   | (with_reducible exact spec_l01Times.mono _ _ _ _)
   | (with_reducible exact LeO.refl _)
   | (with_reducible exact LeO.none _)
   | (with_reducible refine LeO.ite ?_ ?_)
   | (with_reducible refine LeO.bind ?_ (fun _ => ?_))
   | exact ih0 _ _ _ _
   | exact spec_l01Times.mono _ _ _ _
   | exact LeO.none _
   | refine LeO.ite ?_ ?_
   | refine LeO.bind ?_ (fun _ => ?_)
set_option maxHeartbeats 8000000 in
set_option maxRecDepth 100000 in
theorem spec_l07Nodes.calls (k : Nat) (a0 : Int) (A1 : Option Addr) (c1 : Nat) (l1 : List Int) (r : List Int) (w : World) (hr1 : Kd.C (Kd.int .i64) w A1 l1.length l1) (hc1 : l1.length ≤ c1) (h : spec_l07Nodes.f k a0 l1 = some r) :
  Calls Try.prog 58 #[.int .i64 a0, .slice A1 l1.length c1] w fun e w' => ∃ v0_ : Value, e = .returned (v0_) ∧ Kd.R (Kd.int .i64) 2 w' w.heap.size (fun _ => True) v0_ r ∧ Below w.heap.size w w' := by
 have HR1 := zA hr1
 have HC1 := zA hc1
 clear hr1 hc1
 have HB := zA (Below.refl w.heap.size w)
 have H : (spec_l07Nodes.l0 k a0 l1 (([1] : List Int)) 0) = some r := h
 clear h
 obtain ⟨y319, hy319⟩ : ∃ y_ : List Int, y_ = (([1] : List Int)) := ⟨_, rfl⟩
 replace H : (spec_l07Nodes.l0 k a0 l1 y319 0) = some r := by first | (rw [hy319]; with_reducible exact H) | (have H2_ := (Option.bind_some _ _).symm.trans H; rw [hy319]; with_reducible exact H2_) | (have H2_ := (Option.bind_some _ _).symm.trans H; with_reducible exact H2_) | with_reducible exact H | (rw [hy319]; exact H) | exact H
 have Ny319 := zA hy319
 clear hy319
 have H' := zA H
 clear H
 go_enter Try.func58, Try.ntmps58
 go_wp2_with (first | ((with_reducible refine gate_dst (N := 7) rfl ?_); refine Kd.R_lit (Kd.int .i64) _ 2 ?hg (N := 7) ?hd (xs := ([1] : List Int)) (inner := [.int .i64 1]) (ok := fun _ => True) (okp := fun _ => True) ?hr ?hp (fun _ hk => hk) trivial (Below.refl _ _) (Nat.le_refl _) (by simp) ?_; (case hd => rfl); (case hg => rfl); (case hr => first | (go_simp; done) | (go_simp; rfl)); (case hp => exact (Reps.one (show Kd.M (Kd.int .i64) _ _ _ 1 [.int .i64 1] from rfl) (Reps.none _ _))); intro v320 w3 ho4 hb hg_ hnew_; clear hg_ hnew_; (first | rw [← Ny319.out] at ho4 | (simp only [Int.reduceToNat] at ho4; rw [← Ny319.out] at ho4)); have n0_ := zA (Kd.R_lower ho4 (below_size (uH HB.out))); have n1_ := xH HB hb; clear HB; have HO321 := n0_; have HB := n1_; clear n0_ n1_ hb ho4))
 go_loopg [5, 6] k (fun kq v5 v6 w' => ∃ (x5_1 : List Int) (x6_1 : Int), v6 = .int .i64 x6_1 ∧ Aside0 (spec_l07Nodes.l0 kq a0 l1 x5_1 x6_1 = some r) ∧ Aside0 (kq ≤ k) ∧ Aside0 (Kd.R (Kd.int .i64) 2 w' w.heap.size (fun _ => True) v5 x5_1) ∧ Aside0 (Below w.heap.size w w'))
 case atStart => exact ⟨(y319), (0), (by first | rfl | (simp; done) | (simp [*]; done)), H', ⟨Nat.le_refl _⟩, ⟨uR HO321.out⟩, ⟨uH HB.out⟩⟩
 case round =>
  clear H'
  try clear c1
  try clear p2
  obtain ⟨x5_1, x6_1, rfl, HA, HK1, HO_5, HB⟩ := hrel
  cases gk with
  | zero => exact absurd HA.out (by simp [spec_l07Nodes.l0])
  | succ k1 =>
   have H := HA.out
   clear HA
   simp only [spec_l07Nodes.l0] at H
   by_cases c5 : x6_1 < (l1.length : Int)
   ·rw [if_pos c5] at H
    have c5b0 : decide (x6_1 < (l1.length : Int)) = true := decide_eq_true c5
    clear c5
    by_cases c6 : 0 ≤ x6_1
    ·rw [if_pos c6] at H
     have c6b0 : decide (0 ≤ x6_1) = true := decide_eq_true c6
     clear c6
     replace H := Option.bind_eq_some_iff.mp H
     obtain ⟨t323, A70, H⟩ := H
     replace H : ((spec_l01Times.f k1 a0 x5_1 (([t323, 1] : List Int))).bind fun t327 => (spec_l07Nodes.l0 k1 a0 l1 t327 (wrap64 (x6_1 + 1)))) = some r := H
     have A7 := zA A70
     clear A70
     obtain ⟨y324, hy324⟩ : ∃ y_ : List Int, y_ = (([t323, 1] : List Int)) := ⟨_, rfl⟩
     replace H : ((spec_l01Times.f k1 a0 x5_1 y324).bind fun t327 => (spec_l07Nodes.l0 k1 a0 l1 t327 (wrap64 (x6_1 + 1)))) = some r := by first | (rw [hy324]; with_reducible exact H) | (have H2_ := (Option.bind_some _ _).symm.trans H; rw [hy324]; with_reducible exact H2_) | (have H2_ := (Option.bind_some _ _).symm.trans H; with_reducible exact H2_) | with_reducible exact H | (rw [hy324]; exact H) | exact H
     have Ny324 := zA hy324
     clear hy324
     replace H := Option.bind_eq_some_iff.mp H
     obtain ⟨t327, A80, H⟩ := H
     replace H : (spec_l07Nodes.l0 k1 a0 l1 t327 (wrap64 (x6_1 + 1))) = some r := H
     have A8 := zA A80
     clear A80
     have H' := zA H
     clear H
     have p322 : 0 ≤ (x6_1 : Int) := of_decide_eq_true (by first | (with_reducible assumption) | assumption)
     have q322 : x6_1 < (l1.length : Int) := of_decide_eq_true (by first | (with_reducible assumption) | assumption)
     obtain ⟨ad322, e322, hx322_0⟩ := Kd.at_int HR1.out x6_1 p322 q322
     cases e322
     replace hx322_0 := (HB.out.cell (World.block_lt_of_cell? w _ hx322_0)).trans hx322_0
     replace p322 := eq_true p322
     replace q322 := eq_true q322
     go_wp2_with (first | ((with_reducible refine gate_callee (f := 67) rfl ?_); refine goesL_ (some 22) rfl rfl Try.func67 (by kernel_rfl) rfl #[.int .i64 a0, .int .i64 (wrap64 (-(rd l1 x6_1)))] rfl (by (try simp only [la, lb, lc]); first | done | rfl | (simp only [ld, le]; rfl)) ?_; (with_reducible refine (spec_l01Mod.calls a0 (wrap64 (-(rd l1 x6_1))) t323 _ A7.out).mono ?_); rintro e w' ⟨rfl, ⟨nd, rfl⟩⟩; refine ⟨_, rfl, ?_⟩) | ((with_reducible refine gate_dst (N := 23) rfl ?_); refine Kd.R_lit (Kd.int .i64) _ 2 ?hg (N := 23) ?hd (xs := ([t323, 1] : List Int)) (inner := [.int .i64 t323, .int .i64 1]) (ok := fun _ => True) (okp := fun _ => True) ?hr ?hp (fun _ hk => hk) trivial (Below.refl _ _) (Nat.le_refl _) (by simp) ?_; (case hd => rfl); (case hg => rfl); (case hr => first | (go_simp; done) | (go_simp; rfl)); (case hp => exact (Reps.one (show Kd.M (Kd.int .i64) _ _ _ t323 [.int .i64 t323] from rfl) (Reps.one (show Kd.M (Kd.int .i64) _ _ _ 1 [.int .i64 1] from rfl) (Reps.none _ _)))); intro v325 w9 ho10 hb hg_ hnew_; clear hg_ hnew_; (first | rw [← Ny324.out] at ho10 | (simp only [Int.reduceToNat] at ho10; rw [← Ny324.out] at ho10)); have n0_ := zA (Kd.R_elder' (uR HO_5.out) (Kd.R_base ho10) hb); have n1_ := zA (Kd.R_lower (Kd.R_new' ho10 (Kd.R_lt (uR HO_5.out))) (below_size (uH HB.out))); have n2_ := xH HB hb; clear HO_5 HB; have HO_5 := n0_; have HO326 := n1_; have HB := n2_; clear n0_ n1_ n2_ hb ho10; obtain ⟨Ao11, co11, eo11⟩ := Kd.R_slice HO_5.out; subst eo11; obtain ⟨Ao12, co12, eo12⟩ := Kd.R_slice HO326.out; subst eo12) | ((with_reducible refine gate_callee (f := 104) rfl ?_); refine goesL_ (some 24) rfl rfl Try.func104 (by kernel_rfl) rfl #[.int .i64 a0, .slice Ao11 x5_1.length co11, .slice Ao12 y324.length co12] rfl (by (try simp only [la, lb, lc]); first | done | rfl | (simp only [ld, le]; rfl)) ?_; (with_reducible refine (spec_l01Times.calls k1 a0 _ _ x5_1 _ _ y324 t327 _ ?side1 ?side2 ?side3 ?side4 A8.out).mono ?_); (case side1 => exact uC ((Kd.R_reads' HO_5.out).2.2)); (case side2 => exact (Kd.R_reads' HO_5.out).2.1); (case side3 => exact uC ((Kd.R_reads' HO326.out).2.2)); (case side4 => exact (Kd.R_reads' HO326.out).2.1); rintro e w13 ⟨v328, rfl, ho0, hb⟩; refine ⟨_, rfl, ?_⟩; have n0_ := zA (Kd.R_elder' (uR HO_5.out) (Kd.R_base ho0) hb); have n1_ := zA (Kd.R_elder' (uR HO326.out) (Kd.R_base ho0) hb); have n2_ := zA (Kd.R_lower (Kd.R_new' (Kd.R_new' ho0 (Kd.R_lt (uR HO_5.out))) (Kd.R_lt (uR HO326.out))) (below_size (uH HB.out))); have n3_ := xH HB hb; clear HO_5 HO326 HB; have HO_5 := n0_; have HO326 := n1_; have HO329 := n2_; have HB := n3_; clear n0_ n1_ n2_ n3_; (try clear hb); (try clear hb2); (try clear hk); (try clear hi); (try clear ho0)))
     go_roundg k1
     case measure => have := HK1.out; omega
     case rel => exact ⟨(t327), (wrap64 (x6_1 + 1)), (by first | rfl | (simp; done) | (simp [*]; done)), H', ⟨by have := HK1.out; omega⟩, ⟨uR (Kd.R_mono HO329.out (fun _ hk => trivial))⟩, ⟨uH HB.out⟩⟩
    ·rw [if_neg c6] at H
     exact absurd H (by simp)
   ·rw [if_neg c5] at H
    have c5b0 : decide (x6_1 < (l1.length : Int)) = false := decide_eq_false c5
    clear c5
    obtain rfl := Option.some.inj H
    go_wp2
    go_ret
    exact ⟨_, by first | rfl | (simp [errW_none, errW_some] <;> rfl) | (simp [*, errW_none, errW_some] <;> rfl), uR HO_5.out, uH HB.out⟩

end Go.Proofs.Yteoipomgldioeaa.Pr
/- Printed by a program of this session out of the translation: what these functions of the program compute, under the conditions that each theorem names. -/
namespace Go.Proofs.Yteoipomgldioeaa.Pr
open Go.RowKit Go.Proofs.YteoipomgldioeaaW.PrintWords Go.Proofs.YteoipomgldioeaaW.PrintLast Go.Proofs.YteoipomgldioeaaW.PrintMore
attribute [local go_sem] max2_int min2_int max_two min_two max_three min_three max_four min_four   -- for this text's walks alone
set_option linter.unusedVariables false
set_option linter.unusedSimpArgs false

/-! ### spec_NodePoly: function 24 -/
def spec_NodePoly.f (k : Nat) (a0_0 : Int) (l0_1 : List Int) (l0_2 : List Int) : Option (List Int × Int) := (spec_l07Is.f k a0_0 l0_1 l0_2).bind fun t331 => (if t331 = true then ((spec_l07Nodes.f k a0_0 l0_1).bind fun t332 => (some (t332, 0))) else (some (([] : List Int), 1)))
theorem spec_NodePoly.mono : ∀ a0 a1 a2 k, LeO (spec_NodePoly.f k a0 a1 a2) (spec_NodePoly.f (k + 1) a0 a1 a2) := by
 intro a0 a1 a2 k
 unfold spec_NodePoly.f
 repeat' first
   | (with_reducible exact spec_l07Is.mono _ _ _ _)
   | (with_reducible exact spec_l07Nodes.mono _ _ _)
   | (with_reducible exact LeO.refl _)
   | (with_reducible exact LeO.none _)
   | (with_reducible refine LeO.ite ?_ ?_)
   | (with_reducible refine LeO.bind ?_ (fun _ => ?_))
   | exact spec_l07Is.mono _ _ _ _
   | exact spec_l07Nodes.mono _ _ _
   | exact LeO.none _
   | refine LeO.ite ?_ ?_
   | refine LeO.bind ?_ (fun _ => ?_)
set_option maxHeartbeats 8000000 in
set_option maxRecDepth 100000 in
theorem spec_NodePoly.calls (k : Nat) (a0_0 : Int) (A0_1 : Option Addr) (c0_1 : Nat) (l0_1 : List Int) (A0_2 : Option Addr) (c0_2 : Nat) (l0_2 : List Int) (r1 : List Int) (r2 : Int) (w : World) (hr0_1 : Kd.C (Kd.int .i64) w A0_1 l0_1.length l0_1) (hc0_1 : l0_1.length ≤ c0_1) (hr0_2 : Kd.C (Kd.int .i64) w A0_2 l0_2.length l0_2) (hc0_2 : l0_2.length ≤ c0_2) (h : spec_NodePoly.f k a0_0 l0_1 l0_2 = some (r1, r2)) :
  Calls Try.prog 24 #[.agg #[.int .i64 a0_0, .slice A0_1 l0_1.length c0_1, .slice A0_2 l0_2.length c0_2]] w fun e w' => ∃ v0_ : Value, e = .returned (.tuple #[v0_, .int .i64 r2]) ∧ Kd.R (Kd.int .i64) 2 w' w.heap.size (fun _ => True) v0_ r1 ∧ Below w.heap.size w w' := by
 have hu26 := Try.underlying26
 have HR0_1 := zA hr0_1
 have HC0_1 := zA hc0_1
 clear hr0_1 hc0_1
 have HR0_2 := zA hr0_2
 have HC0_2 := zA hc0_2
 clear hr0_2 hc0_2
 have HB := zA (Below.refl w.heap.size w)
 have H : ((spec_l07Is.f k a0_0 l0_1 l0_2).bind fun t331 => (if t331 = true then ((spec_l07Nodes.f k a0_0 l0_1).bind fun t332 => (some (t332, 0))) else (some (([] : List Int), 1)))) = some (r1, r2) := h
 clear h
 replace H := Option.bind_eq_some_iff.mp H
 obtain ⟨t331, A20, H⟩ := H
 replace H : (if t331 = true then ((spec_l07Nodes.f k a0_0 l0_1).bind fun t332 => (some (t332, 0))) else (some (([] : List Int), 1))) = some (r1, r2) := H
 have A2 := zA A20
 clear A20
 by_cases c3 : t331 = true
 ·subst c3
  have H1 : ((spec_l07Nodes.f k a0_0 l0_1).bind fun t332 => (some (t332, 0))) = some (r1, r2) := by rw [if_pos rfl] at H; exact H
  clear H
  have H := H1
  clear H1
  replace H := Option.bind_eq_some_iff.mp H
  obtain ⟨t332, A40, H⟩ := H
  replace H : (some (t332, 0)) = some (r1, r2) := H
  have A4 := zA A40
  clear A40
  simp only [Option.some.injEq, Prod.mk.injEq] at H
  obtain ⟨rfl, rfl⟩ := H
  go_enter Try.func24, Try.ntmps24
  go_wp2_with (first | ((with_reducible refine gate_dst (N := 1) rfl ?_); refine box_event ?hg (N := 1) ?hd (cs := #[.int .i64 a0_0, .slice A0_1 l0_1.length c0_1, .slice A0_2 l0_2.length c0_2]) (t := 26) ?hr ?_; (case hd => rfl); (case hg => rfl); (case hr => first | (go_simp; done) | (go_simp; rfl)); intro gb330 hg w5 hbox hb; have n0_ := xH HB hb; have n1_ := zA (hbox); have n2_ := zA ((by rw [hg]; exact (below_size (uH HB.out)) : w.heap.size ≤ gb330)); have n3_ := zA ((by rw [hg]; exact (below_size (uH HB.out)) : w.heap.size ≤ gb330)); clear HB; have HB := n0_; have BK330 := n1_; have GW330 := n2_; have GE330 := n3_; have := geI GE330; clear n0_ n1_ n2_ n3_ hb hbox hg; have hcz6_0 : w5.cell? ⟨gb330, 0, none⟩ = some (.int .i64 a0_0) := (blk_cell BK330.out 0).trans rfl; have hcz6_1 : w5.cell? ⟨gb330, 1, none⟩ = some (.slice A0_1 l0_1.length c0_1) := (blk_cell BK330.out 1).trans rfl; have hcz6_2 : w5.cell? ⟨gb330, 2, none⟩ = some (.slice A0_2 l0_2.length c0_2) := (blk_cell BK330.out 2).trans rfl; have hfz6_0 := blk_frozen BK330.out 0; have hfz6_1 := blk_frozen BK330.out 1; have hfz6_2 := blk_frozen BK330.out 2) | ((with_reducible refine gate_callee (f := 52) rfl ?_); refine goesL_ (some 5) rfl rfl Try.func52 (by kernel_rfl) rfl #[.agg #[.int .i64 a0_0, .slice A0_1 l0_1.length c0_1, .slice A0_2 l0_2.length c0_2]] rfl (by (try simp only [la, lb, lc]); first | done | rfl | (simp only [ld, le]; rfl)) ?_; (with_reducible refine (spec_l07Is.calls k a0_0 _ _ l0_1 _ _ l0_2 true _ ?side1 ?side2 ?side3 ?side4 A2.out).mono ?_); (case side1 => exact uC ((Kd.C_below HR0_1.out HB.out))); (case side2 => exact HC0_1.out); (case side3 => exact uC ((Kd.C_below HR0_2.out HB.out))); (case side4 => exact HC0_2.out); rintro e w7 ⟨rfl, hb⟩; refine ⟨_, rfl, ?_⟩; have n0_ := xB BK330 hb; have n1_ := xH HB hb; clear BK330 HB; have BK330 := n0_; have HB := n1_; clear n0_ n1_; (try clear hb); (try clear hb2); (try clear hk); (try clear hi); have hcz8_0 : w7.cell? ⟨gb330, 0, none⟩ = some (.int .i64 a0_0) := (blk_cell BK330.out 0).trans rfl; have hcz8_1 : w7.cell? ⟨gb330, 1, none⟩ = some (.slice A0_1 l0_1.length c0_1) := (blk_cell BK330.out 1).trans rfl; have hcz8_2 : w7.cell? ⟨gb330, 2, none⟩ = some (.slice A0_2 l0_2.length c0_2) := (blk_cell BK330.out 2).trans rfl; have hfz8_0 := blk_frozen BK330.out 0; have hfz8_1 := blk_frozen BK330.out 1; have hfz8_2 := blk_frozen BK330.out 2) | ((with_reducible refine gate_callee (f := 58) rfl ?_); refine goesL_ (some 11) rfl rfl Try.func58 (by kernel_rfl) rfl #[.int .i64 a0_0, .slice A0_1 l0_1.length c0_1] rfl (by (try simp only [la, lb, lc]); first | done | rfl | (simp only [ld, le]; rfl)) ?_; (with_reducible refine (spec_l07Nodes.calls k a0_0 _ _ l0_1 t332 _ ?side1 ?side2 A4.out).mono ?_); (case side1 => exact uC ((Kd.C_below HR0_1.out HB.out))); (case side2 => exact HC0_1.out); rintro e w9 ⟨v333, rfl, ho0, hb⟩; refine ⟨_, rfl, ?_⟩; have n0_ := zA (Kd.R_lower ho0 (below_size (uH HB.out))); have n1_ := xB BK330 hb; have n2_ := xH HB hb; clear BK330 HB; have HO334 := n0_; have BK330 := n1_; have HB := n2_; clear n0_ n1_ n2_; (try clear hb); (try clear hb2); (try clear hk); (try clear hi); (try clear ho0)))
  go_ret2
  exact ⟨_, by first | rfl | (simp [errW_none, errW_some] <;> rfl) | (simp [*, errW_none, errW_some] <;> rfl), uR HO334.out, uH HB.out⟩
 ·replace c3 := Bool.eq_false_iff.mpr c3
  subst c3
  have H1 : (some (([] : List Int), 1)) = some (r1, r2) := by rw [if_neg (show ¬ (false = true) by decide)] at H; exact H
  clear H
  have H := H1
  clear H1
  simp only [Option.some.injEq, Prod.mk.injEq] at H
  obtain ⟨rfl, rfl⟩ := H
  go_enter Try.func24, Try.ntmps24
  go_wp2_with (first | ((with_reducible refine gate_dst (N := 1) rfl ?_); refine box_event ?hg (N := 1) ?hd (cs := #[.int .i64 a0_0, .slice A0_1 l0_1.length c0_1, .slice A0_2 l0_2.length c0_2]) (t := 26) ?hr ?_; (case hd => rfl); (case hg => rfl); (case hr => first | (go_simp; done) | (go_simp; rfl)); intro gb330 hg w10 hbox hb; have n0_ := xH HB hb; have n1_ := zA (hbox); have n2_ := zA ((by rw [hg]; exact (below_size (uH HB.out)) : w.heap.size ≤ gb330)); have n3_ := zA ((by rw [hg]; exact (below_size (uH HB.out)) : w.heap.size ≤ gb330)); clear HB; have HB := n0_; have BK330 := n1_; have GW330 := n2_; have GE330 := n3_; have := geI GE330; clear n0_ n1_ n2_ n3_ hb hbox hg; have hcz11_0 : w10.cell? ⟨gb330, 0, none⟩ = some (.int .i64 a0_0) := (blk_cell BK330.out 0).trans rfl; have hcz11_1 : w10.cell? ⟨gb330, 1, none⟩ = some (.slice A0_1 l0_1.length c0_1) := (blk_cell BK330.out 1).trans rfl; have hcz11_2 : w10.cell? ⟨gb330, 2, none⟩ = some (.slice A0_2 l0_2.length c0_2) := (blk_cell BK330.out 2).trans rfl; have hfz11_0 := blk_frozen BK330.out 0; have hfz11_1 := blk_frozen BK330.out 1; have hfz11_2 := blk_frozen BK330.out 2) | ((with_reducible refine gate_callee (f := 52) rfl ?_); refine goesL_ (some 5) rfl rfl Try.func52 (by kernel_rfl) rfl #[.agg #[.int .i64 a0_0, .slice A0_1 l0_1.length c0_1, .slice A0_2 l0_2.length c0_2]] rfl (by (try simp only [la, lb, lc]); first | done | rfl | (simp only [ld, le]; rfl)) ?_; (with_reducible refine (spec_l07Is.calls k a0_0 _ _ l0_1 _ _ l0_2 false _ ?side1 ?side2 ?side3 ?side4 A2.out).mono ?_); (case side1 => exact uC ((Kd.C_below HR0_1.out HB.out))); (case side2 => exact HC0_1.out); (case side3 => exact uC ((Kd.C_below HR0_2.out HB.out))); (case side4 => exact HC0_2.out); rintro e w12 ⟨rfl, hb⟩; refine ⟨_, rfl, ?_⟩; have n0_ := xB BK330 hb; have n1_ := xH HB hb; clear BK330 HB; have BK330 := n0_; have HB := n1_; clear n0_ n1_; (try clear hb); (try clear hb2); (try clear hk); (try clear hi)))
  go_ret2
  exact ⟨_, by first | rfl | (simp [errW_none, errW_some] <;> rfl) | (simp [*, errW_none, errW_some] <;> rfl), by first | exact Kd.R_nil _ _ _ _ _ | exact Kd.N_nil _ _ _ _ _ | exact Kd.V_nil _ _ _ _ _ | exact Kd.Q_nil _ _ _ _ _ | exact Kd.S_nil _ _ _ _ _, uH HB.out⟩

end Go.Proofs.Yteoipomgldioeaa.Pr
/- Products of polynomials modulo p; no condition. -/
namespace Go.Proofs.Yteoipomgldioeaa.Pr
open Go.RowKit Go.Proofs.YteoipomgldioeaaW.PrintWords Go.Proofs.YteoipomgldioeaaW.PrintLast Go.Proofs.YteoipomgldioeaaW.PrintMore

/-! ### products -/
def mulIn (p c : Int) (g : List Int) (i : Nat) : Nat → Nat → List Int → List Int
  | 0, _, o => o
  | d + 1, j, o => mulIn p c g i d (j + 1) (o.set (i + j) ((o.getD (i + j) 0 + c * g.getD j 0) % p))
theorem mulIn_len (p c : Int) (g : List Int) (i d : Nat) : ∀ j o, (mulIn p c g i d j o).length = o.length := by
  induction d with
  | zero => intro j o; rfl
  | succ d ih => intro j o; rw [mulIn, ih, List.length_set]
theorem mulIn_nm {p : Int} (hp : 0 < p) (c : Int) (g : List Int) (i d : Nat) : ∀ j o, Nm p o → Nm p (mulIn p c g i d j o) := by
  induction d with
  | zero => intro j o h; exact h
  | succ d ih => intro j o h; exact ih _ _ (h.set (emodB hp _).1 (emodB hp _).2 _)
def mulOut (p : Int) (f g : List Int) : Nat → Nat → List Int → List Int
  | 0, _, o => o
  | d + 1, i, o => mulOut p f g d (i + 1) (mulIn p (f.getD i 0) g i g.length 0 o)
theorem mulOut_len (p : Int) (f g : List Int) (d : Nat) : ∀ i o, (mulOut p f g d i o).length = o.length := by
  induction d with
  | zero => intro i o; rfl
  | succ d ih => intro i o; rw [mulOut, ih, mulIn_len]
theorem mulOut_nm {p : Int} (hp : 0 < p) (f g : List Int) (d : Nat) : ∀ i o, Nm p o → Nm p (mulOut p f g d i o) := by
  induction d with
  | zero => intro i o h; exact h
  | succ d ih => intro i o h; exact ih _ _ (mulIn_nm hp _ _ _ _ _ _ h)
/-- f times g. -/
def pmul (p : Int) (f g : List Int) : List Int := if f.length = 0 ∨ g.length = 0 then [] else trim (mulOut p f g f.length 0 (List.replicate (f.length + g.length - 1) 0))
theorem pmul_len (p : Int) (f g : List Int) : (pmul p f g).length ≤ f.length + g.length - 1 := by
  unfold pmul
  split
  · simp
  · have := trim_len (mulOut p f g f.length 0 (List.replicate (f.length + g.length - 1) 0))
    rw [mulOut_len, List.length_replicate] at this
    exact this
theorem pmul_nm {p : Int} (hp : 0 < p) (f g : List Int) : Nm p (pmul p f g) := by
  unfold pmul
  split
  · exact Nm.nil p
  · exact (mulOut_nm hp _ _ _ _ _ (Nm.zeros hp _)).trim
theorem implMul1 {p : Int} (hp : Pm p) (f g : List Int) (hg : Nm p g) (c : Int) (hc : 0 ≤ c ∧ c < p) (i : Nat) (r : List Int) (d : Nat) : ∀ (j : Nat) (o : List Int), j + d = g.length → i + g.length ≤ o.length → Nm p o → Sm o.length →
    Ev (fun n => impl_field_product.l0 n p g (mulIn p c g i d j o) f (f.length : Int) (wrap64 ((i : Int) + 1))) r →
    Ev (fun n => impl_field_product.l1 n p g o (i : Int) c f (f.length : Int) (i : Int) g (g.length : Int) (j : Int)) r := by
  induction d with
  | zero =>
    intro j o hj hl ho hs e
    refine Ev.step (fun n => by rw [impl_field_product.l1]) ?_
    exact Ev.neg (by omega) e
  | succ d ih =>
    intro j o hj hl ho hs e
    have h1 := ho.get (i := i + j) (by omega)
    have h2 := hg.get (i := j) (by omega)
    have h3 := mulP hp hc.1 hc.2 h2.1 h2.2
    have ht := hp.top
    have hm := emodB hp.pos (o.getD (i + j) 0 + c * g.getD j 0)
    have hs' := hs
    unfold Sm at hs'
    have hw : wrap64 ((i : Int) + (j : Int)) = ((i + j : Nat) : Int) := wadd (n := o.length) (by omega) (by omega)
    refine Ev.step (fun n => by rw [impl_field_product.l1]) ?_
    rw [hw]
    have c1 : (j : Int) < (g.length : Int) := by clear h1 h2 h3 hm hw e; omega
    have c2 : (0 : Int) ≤ (j : Int) := by clear h1 h2 h3 hm hw e; omega
    have c3 : (0 : Int) ≤ ((i + j : Nat) : Int) := by clear h1 h2 h3 hm hw e; omega
    have c4 : ((i + j : Nat) : Int) < (o.length : Int) := by clear h1 h2 h3 hm hw e; omega
    refine Ev.pos c1 (Ev.pos c2 (Ev.pos c1 (Ev.pos c3 (Ev.pos c4 ?_))))
    rw [rd_nat, rd_nat, wrap_id (x := c * g.getD j 0) (by omega) (by omega), wrap_id (by omega) (by omega)]
    refine Ev.bindE (mod_eq hp _) ?_
    rw [wsucc (i := j) (n := g.length) (by clear h1 h2 h3 hm hw e; omega) (by clear h1 h2 h3 hm hw e; omega), toNat_nat]
    exact ih (j + 1) _ (by clear h1 h2 h3 hm hw e; omega) (by rw [List.length_set]; clear h1 h2 h3 hm hw e; omega) (ho.set hm.1 hm.2 _) (by rw [List.length_set]; exact hs) e
theorem implMul0 {p : Int} (hp : Pm p) (f g : List Int) (hf : Nm p f) (hg : Nm p g) (d : Nat) : ∀ (i : Nat) (o : List Int), i + d = f.length → f.length + g.length ≤ o.length + 1 → Nm p o → Sm o.length →
    Ev (fun n => impl_field_product.l0 n p g o f (f.length : Int) (i : Int)) (trim (mulOut p f g d i o)) := by
  induction d with
  | zero =>
    intro i o hi hl ho hs
    refine Ev.step (fun n => by rw [impl_field_product.l0]) ?_
    exact Ev.neg (by omega) (Ev.bind (implTrim_ev o hs) (Ev.now _))
  | succ d ih =>
    intro i o hi hl ho hs
    have hs' := hs
    unfold Sm at hs'
    refine Ev.step (fun n => by rw [impl_field_product.l0]) ?_
    refine Ev.pos (by omega) (Ev.pos (by omega) (Ev.pos (by omega) ?_))
    rw [rd_nat]
    refine implMul1 hp f g hg _ (hf.get (i := i) (by omega)) i _ g.length 0 o (by omega) (by omega) ho hs ?_
    by_cases hg0 : f.length ≤ 4611686018427387903
    · rw [wsucc (i := i) (n := f.length) (by omega) (by omega)]
      exact ih (i + 1) _ (by omega) (by rw [mulIn_len]; exact hl) (mulIn_nm hp.pos _ _ _ _ _ _ ho) (by rw [mulIn_len]; exact hs)
    · omega
theorem implMul_ev {p : Int} (hp : Pm p) (f g : List Int) (hf : Nm p f) (hg : Nm p g) (sf : Sm f.length) (sg : Sm g.length) (sfg : Sm (f.length + g.length)) :
    Ev (fun n => impl_field_product.f n p f g) (pmul p f g) := by
  unfold impl_field_product.f pmul
  unfold Sm at sf sg sfg
  by_cases h1 : f.length = 0
  · rw [if_pos (Or.inl h1)]
    refine Ev.pos (by omega) ?_
    refine Ev.step (fun n => by rw [impl_field_product.j0]) ?_
    exact Ev.pos rfl (Ev.now _)
  · refine Ev.neg (by omega) ?_
    by_cases h2 : g.length = 0
    · rw [if_pos (Or.inr h2), show ((g.length : Int) == 0) = true from by simp [h2]]
      refine Ev.step (fun n => by rw [impl_field_product.j0]) ?_
      exact Ev.pos rfl (Ev.now _)
    · rw [if_neg (by omega), show ((g.length : Int) == 0) = false from by simp; exact fun h => h2 (by simp [h])]
      refine Ev.step (fun n => by rw [impl_field_product.j0]) ?_
      have e : wrap64 (wrap64 ((f.length : Int) + (g.length : Int)) - 1) = ((f.length + g.length - 1 : Nat) : Int) := by
        rw [wrap_id (x := (f.length : Int) + (g.length : Int)) (by omega) (by omega), wrap_id (by omega) (by omega)]; omega
      rw [e, toNat_nat]
      refine Ev.neg (by decide) (Ev.pos (by omega) (Ev.pos (by omega) ?_))
      exact implMul0 hp f g hf hg f.length 0 _ (by omega) (by rw [List.length_replicate]; omega) (Nm.zeros hp.pos _) (by rw [List.length_replicate]; unfold Sm; omega)
theorem specMul1 {p : Int} (hp : Pm p) (f g : List Int) (hf : Nm p f) (hg : Nm p g) (i : Nat) (hi : i < f.length) (r : List Int) (d : Nat) : ∀ (j : Nat) (o : List Int), j + d = g.length → i + g.length ≤ o.length → Nm p o → Sm o.length →
    Ev (fun n => spec_l01Times.l0 n p f g (mulIn p (f.getD i 0) g i d j o) (wrap64 ((i : Int) + 1))) r →
    Ev (fun n => spec_l01Times.l1 n p f g o (i : Int) (j : Int)) r := by
  induction d with
  | zero =>
    intro j o hj hl ho hs e
    refine Ev.step (fun n => by rw [spec_l01Times.l1]) ?_
    exact Ev.neg (by omega) e
  | succ d ih =>
    intro j o hj hl ho hs e
    have hc := hf.get (i := i) hi
    have h1 := ho.get (i := i + j) (by omega)
    have h2 := hg.get (i := j) (by omega)
    have h3 := mulP hp hc.1 hc.2 h2.1 h2.2
    have ht := hp.top
    have hm := emodB hp.pos (o.getD (i + j) 0 + f.getD i 0 * g.getD j 0)
    have hs' := hs
    unfold Sm at hs'
    have hw : wrap64 ((i : Int) + (j : Int)) = ((i + j : Nat) : Int) := wadd (n := o.length) (by omega) (by omega)
    refine Ev.step (fun n => by rw [spec_l01Times.l1]) ?_
    rw [hw]
    have c1 : (j : Int) < (g.length : Int) := by clear h1 h2 h3 hm hw e; omega
    have c2 : (0 : Int) ≤ (j : Int) := by clear h1 h2 h3 hm hw e; omega
    have c3 : (0 : Int) ≤ ((i + j : Nat) : Int) := by clear h1 h2 h3 hm hw e; omega
    have c4 : ((i + j : Nat) : Int) < (o.length : Int) := by clear h1 h2 h3 hm hw e; omega
    have c5 : (0 : Int) ≤ (i : Int) := by clear h1 h2 h3 hm hw e; omega
    have c6 : (i : Int) < (f.length : Int) := by clear h1 h2 h3 hm hw e; omega
    refine Ev.pos c1 (Ev.pos c3 (Ev.pos c4 (Ev.pos c5 (Ev.pos c6 (Ev.pos c2 (Ev.neg hp.ne ?_))))))
    rw [rd_nat, rd_nat, rd_nat, wrap_id (x := f.getD i 0 * g.getD j 0) (by omega) (by omega), wrap_id (by omega) (by omega), tmod_pos (by omega), wsucc (i := j) (n := g.length) (by clear h1 h2 h3 hm hw e; omega) (by clear h1 h2 h3 hm hw e; omega), toNat_nat]
    exact ih (j + 1) _ (by clear h1 h2 h3 hm hw e; omega) (by rw [List.length_set]; clear h1 h2 h3 hm hw e; omega) (ho.set hm.1 hm.2 _) (by rw [List.length_set]; exact hs) e
theorem specMul0 {p : Int} (hp : Pm p) (f g : List Int) (hf : Nm p f) (hg : Nm p g) (d : Nat) : ∀ (i : Nat) (o : List Int), i + d = f.length → f.length + g.length ≤ o.length + 1 → Nm p o → Sm o.length →
    Ev (fun n => spec_l01Times.l0 n p f g o (i : Int)) (trim (mulOut p f g d i o)) := by
  induction d with
  | zero =>
    intro i o hi hl ho hs
    refine Ev.step (fun n => by rw [spec_l01Times.l0]) ?_
    exact Ev.neg (by omega) (Ev.bind (specTrim_ev o hs) (Ev.now _))
  | succ d ih =>
    intro i o hi hl ho hs
    have hs' := hs
    unfold Sm at hs'
    refine Ev.step (fun n => by rw [spec_l01Times.l0]) ?_
    refine Ev.pos (by omega) ?_
    refine specMul1 hp f g hf hg i (by omega) _ g.length 0 o (by omega) (by omega) ho hs ?_
    by_cases hg0 : f.length ≤ 4611686018427387903
    · rw [wsucc (i := i) (n := f.length) (by omega) (by omega)]
      exact ih (i + 1) _ (by omega) (by rw [mulIn_len]; exact hl) (mulIn_nm hp.pos _ _ _ _ _ _ ho) (by rw [mulIn_len]; exact hs)
    · omega
theorem specMul_ev {p : Int} (hp : Pm p) (f g : List Int) (hf : Nm p f) (hg : Nm p g) (sf : Sm f.length) (sg : Sm g.length) (sfg : Sm (f.length + g.length)) :
    Ev (fun n => spec_l01Times.f n p f g) (pmul p f g) := by
  unfold spec_l01Times.f pmul
  unfold Sm at sf sg sfg
  by_cases h1 : f.length = 0
  · rw [if_pos (Or.inl h1)]
    refine Ev.pos (by omega) ?_
    refine Ev.step (fun n => by rw [spec_l01Times.j0]) ?_
    exact Ev.pos rfl (Ev.now _)
  · refine Ev.neg (by omega) ?_
    by_cases h2 : g.length = 0
    · rw [if_pos (Or.inr h2), show ((g.length : Int) == 0) = true from by simp [h2]]
      refine Ev.step (fun n => by rw [spec_l01Times.j0]) ?_
      exact Ev.pos rfl (Ev.now _)
    · rw [if_neg (by omega), show ((g.length : Int) == 0) = false from by simp; exact fun h => h2 (by simp [h])]
      refine Ev.step (fun n => by rw [spec_l01Times.j0]) ?_
      have e : wrap64 (wrap64 ((f.length : Int) + (g.length : Int)) - 1) = ((f.length + g.length - 1 : Nat) : Int) := by
        rw [wrap_id (x := (f.length : Int) + (g.length : Int)) (by omega) (by omega), wrap_id (by omega) (by omega)]; omega
      rw [e, toNat_nat]
      refine Ev.neg (by decide) (Ev.pos (by omega) (Ev.pos (by omega) ?_))
      exact specMul0 hp f g hf hg f.length 0 _ (by omega) (by rw [List.length_replicate]; omega) (Nm.zeros hp.pos _) (by rw [List.length_replicate]; unfold Sm; omega)
end Go.Proofs.Yteoipomgldioeaa.Pr
/- NodePoly: for all arguments the program and the reference come to one value; no condition. -/
namespace Go.Proofs.Yteoipomgldioeaa.Pr
open Go.RowKit Go.Proofs.YteoipomgldioeaaW.PrintWords Go.Proofs.YteoipomgldioeaaW.PrintLast Go.Proofs.YteoipomgldioeaaW.PrintMore

def nodeGo (p : Int) (n : List Int) : Nat → Nat → List Int → List Int
  | 0, _, o => o
  | d + 1, i, o => nodeGo p n d (i + 1) (pmul p o [(-n.getD i 0) % p, 1])
theorem nodeGo_len (p : Int) (n : List Int) (d : Nat) : ∀ i o, (nodeGo p n d i o).length ≤ o.length + d := by
  induction d with
  | zero => intro i o; simp [nodeGo]
  | succ d ih =>
    intro i o
    have h1 := ih (i + 1) (pmul p o [(-n.getD i 0) % p, 1])
    have h2 := pmul_len p o [(-n.getD i 0) % p, 1]
    simp only [List.length_cons, List.length_nil] at h2
    rw [nodeGo]
    omega
theorem linear_nm {p : Int} (hp : Pm p) (a : Int) : Nm p [(-a) % p, 1] := by
  have := hp.two
  exact Nm.cons (emodB hp.pos _).1 (emodB hp.pos _).2 (Nm.cons (by omega) (by omega) (Nm.nil p))
theorem specNode_l0 {p : Int} (hp : Pm p) (n : List Int) (hn : Nm p n) (hl : n.length ≤ 24) (d : Nat) : ∀ (i : Nat) (o : List Int), i + d = n.length → o.length ≤ i + 1 → Nm p o →
    Ev (fun k => spec_l07Nodes.l0 k p n o (i : Int)) (nodeGo p n d i o) := by
  induction d with
  | zero =>
    intro i o hi ho hno
    refine Ev.step (fun k => by rw [spec_l07Nodes.l0]) ?_
    exact Ev.neg (by omega) (Ev.now _)
  | succ d ih =>
    intro i o hi ho hno
    have h1 := hn.get (i := i) (by omega)
    have ht := hp.top
    have h2 := pmul_len p o [(-n.getD i 0) % p, 1]
    simp only [List.length_cons, List.length_nil] at h2
    refine Ev.step (fun k => by rw [spec_l07Nodes.l0]) ?_
    refine Ev.pos (by omega) (Ev.pos (by omega) ?_)
    rw [rd_nat, wrap_id (x := -n.getD i 0) (by omega) (by omega)]
    refine Ev.bindE (smod_eq hp _) (Ev.bind (specMul_ev hp o _ hno (linear_nm hp _) (by unfold Sm; omega) (by simp [Sm]) (by simp only [List.length_cons, List.length_nil]; unfold Sm; omega)) ?_)
    rw [wsucc (i := i) (n := n.length) (by omega) (by omega)]
    exact ih (i + 1) _ (by omega) (by omega) (pmul_nm hp.pos _ _)
theorem implNode_l0 {p : Int} (hp : Pm p) (n : List Int) (hn : Nm p n) (hl : n.length ≤ 24) (d : Nat) : ∀ (i : Nat) (o : List Int), i + d = n.length → o.length ≤ i + 1 → Nm p o →
    Ev (fun k => impl_field_ofRoots.l0 k p o n (n.length : Int) (i : Int)) (nodeGo p n d i o) := by
  induction d with
  | zero =>
    intro i o hi ho hno
    refine Ev.step (fun k => by rw [impl_field_ofRoots.l0]) ?_
    exact Ev.neg (by omega) (Ev.now _)
  | succ d ih =>
    intro i o hi ho hno
    have h1 := hn.get (i := i) (by omega)
    have ht := hp.top
    have h2 := pmul_len p o [(-n.getD i 0) % p, 1]
    simp only [List.length_cons, List.length_nil] at h2
    refine Ev.step (fun k => by rw [impl_field_ofRoots.l0]) ?_
    refine Ev.pos (by omega) (Ev.pos (by omega) (Ev.pos (by omega) ?_))
    rw [rd_nat, wrap_id (x := -n.getD i 0) (by omega) (by omega)]
    refine Ev.bindE (mod_eq hp _) (Ev.bind (implMul_ev hp o _ hno (linear_nm hp _) (by unfold Sm; omega) (by simp [Sm]) (by simp only [List.length_cons, List.length_nil]; unfold Sm; omega)) ?_)
    rw [wsucc (i := i) (n := n.length) (by omega) (by omega)]
    exact ih (i + 1) _ (by omega) (by omega) (pmul_nm hp.pos _ _)
theorem NodePoly_both (p : Int) (n w : List Int) (hn : Sm n.length) (hw : Sm w.length) :
    ∃ v : List Int × Int, Ev (fun k => spec_NodePoly.f k p n w) v ∧ Ev (fun k => impl_NodePoly.f k p n w) v ∧ Sm v.1.length := by
  have hc := ruleCode_ev p n w true hn hw
  by_cases h : ruleB p n w = true
  · have hp := ruleB.pm h
    have hp2 := hp.two
    have hl := ruleB.lens h
    have ho : Nm p [1] := Nm.cons (by omega) (by omega) (Nm.nil p)
    have hg := nodeGo_len p n n.length 0 [1]
    simp only [List.length_cons, List.length_nil] at hg
    rw [if_pos h, if_pos rfl] at hc
    refine ⟨(nodeGo p n n.length 0 [1], 0), ?_, ?_, by unfold Sm; dsimp only; omega⟩
    · unfold spec_NodePoly.f spec_l07Nodes.f
      exact Ev.bind (specRule_ev p n w hn hw) (Ev.pos h (Ev.bind (specNode_l0 hp n (ruleB.nodes h) hl.1 n.length 0 [1] (by omega) (by simp) ho) (Ev.now _)))
    · unfold impl_NodePoly.f impl_field_ofRoots.f
      exact Ev.bind hc (Ev.pos rfl (Ev.bindE (a := p) rfl (Ev.bind (implNode_l0 hp n (ruleB.nodes h) hl.1 n.length 0 [1] (by omega) (by simp) ho) (Ev.now _))))
  · rw [if_neg h] at hc
    refine ⟨([], 1), ?_, ?_, Sm0⟩
    · unfold spec_NodePoly.f
      exact Ev.bind (specRule_ev p n w hn hw) (Ev.neg h (Ev.now _))
    · unfold impl_NodePoly.f
      exact Ev.bind hc (Ev.neg (by decide) (Ev.now _))
end Go.Proofs.Yteoipomgldioeaa.Pr
