/- Texts of this session in one: what functions of the program compute, and plain facts of it, under the conditions that each theorem names. -/
import Derived.Test.YtokkabgkjhpecaaKC01
import Derived.Test.YtokkabgkjhpecaaKC04
import Derived.Test.YtokkabgkjhpecaaKC05
import Derived.Test.YtokkabgkjhpecaaKC06
import Derived.Test.YtokkabgkjhpecaaKXDetI
namespace Go.Proofs.Ytokkabgkjhpecaa.Pr
open Go.RowKit Go.Proofs.YtokkabgkjhpecaaW.PrintWords Go.Proofs.YtokkabgkjhpecaaW.PrintLast Go.Proofs.YtokkabgkjhpecaaW.PrintMore
attribute [local go_sem] max2_int min2_int max_two min_two max_three min_three max_four min_four   -- for this text's walks alone
set_option linter.unusedVariables false
set_option linter.unusedSimpArgs false
/-! ### impl_Moments_hankel: function 115 -/
def impl_Moments_hankel.l0 : Nat → Int → List (List Int) → Int → Int → Int → List Int → Option (Int)
 | 0, _, _, _, _, _, _ => none
 | k + 1, x1, x5, x7, x8, x1263000, x1263001 => if x8 < x7 then (if 0 ≤ x8 then (if x8 ≤ (wrap64 (x8 + x1)) then (if (wrap64 (x8 + x1)) ≤ (x1263001.length : Int) then (if x5.length < 5864062014805 then (impl_Moments_hankel.l0 k x1 (x5 ++ [((x1263001.take ((wrap64 (x8 + x1)) : Int).toNat).drop (x8 : Int).toNat)]) x7 (wrap64 (x8 + 1)) x1263000 x1263001) else (none)) else (none)) else (none)) else (none)) else ((impl_Moments_field.f x1263000 x1263001).bind fun t1271 => ((impl_field_determinant.f k t1271 x5).bind fun t1272 => (some t1272)))
def impl_Moments_hankel.f (k : Nat) (a0_0 : Int) (l0_1 : List Int) (a1 : Int) : Option (Int) := impl_Moments_hankel.l0 k a1 ([] : List (List Int)) a1 0 a0_0 l0_1
theorem impl_Moments_hankel.mono_l : ∀ k, (∀ y0 y1 y2 y3 y4 y5, LeO (impl_Moments_hankel.l0 k y0 y1 y2 y3 y4 y5) (impl_Moments_hankel.l0 (k + 1) y0 y1 y2 y3 y4 y5))
 | 0 => fun _ _ _ _ _ _ r h => by simp [impl_Moments_hankel.l0] at h
 | k + 1 => by
  have ih0 := impl_Moments_hankel.mono_l k
  ·intro y0 y1 y2 y3 y4 y5
   unfold impl_Moments_hankel.l0
   repeat' first
   | (with_reducible exact ih0 _ _ _ _ _ _)
   | (with_reducible exact impl_field_determinant.mono _ _ _)
   | (with_reducible exact LeO.refl _)
   | (with_reducible exact LeO.none _)
   | (with_reducible refine LeO.ite ?_ ?_)
   | (with_reducible refine LeO.bind ?_ (fun _ => ?_))
   | exact ih0 _ _ _ _ _ _
   | exact impl_field_determinant.mono _ _ _
   | exact LeO.none _
   | refine LeO.ite ?_ ?_
   | refine LeO.bind ?_ (fun _ => ?_)
theorem impl_Moments_hankel.mono : ∀ a0 a1 a2 k, LeO (impl_Moments_hankel.f k a0 a1 a2) (impl_Moments_hankel.f (k + 1) a0 a1 a2) := by
 intro a0 a1 a2 k
 have ih0 := impl_Moments_hankel.mono_l k
 unfold impl_Moments_hankel.f
 repeat' first
   | (with_reducible exact ih0 _ _ _ _ _ _)
   | (with_reducible exact impl_field_determinant.mono _ _ _)
   | (with_reducible exact LeO.refl _)
   | (with_reducible exact LeO.none _)
   | (with_reducible refine LeO.ite ?_ ?_)
   | (with_reducible refine LeO.bind ?_ (fun _ => ?_))
   | exact ih0 _ _ _ _ _ _
   | exact impl_field_determinant.mono _ _ _
   | exact LeO.none _
   | refine LeO.ite ?_ ?_
   | refine LeO.bind ?_ (fun _ => ?_)
set_option maxHeartbeats 8000000 in
set_option maxRecDepth 100000 in
theorem impl_Moments_hankel.calls (k : Nat) (a0_0 : Int) (P0_1_ : Nat → Prop) (A0_1 : Option Addr) (c0_1 : Nat) (l0_1 : List Int) (a1 : Int) (r : Int) (w : World) (hs0_1 : Kd.V (Kd.int .i64) 2 w w.heap.size (fun k_ => P0_1_ k_) (.slice A0_1 l0_1.length c0_1) l0_1) (h : impl_Moments_hankel.f k a0_0 l0_1 a1 = some r) :
  Calls Try.prog 115 #[.agg #[.int .i64 a0_0, .slice A0_1 l0_1.length c0_1], .int .i64 a1] w fun e w' => e = .returned (.int .i64 r) ∧ Below w.heap.size w w' := by
 have hu31 := Try.underlying31
 have HO0_1 := zA (show Kd.V (Kd.int .i64) 2 w w.heap.size (fun k_ => (P0_1_ k_ ∨ w.heap.size ≤ k_)) (.slice A0_1 l0_1.length c0_1) l0_1 from Kd.V_mono hs0_1 (fun k_ hk => .inl hk))
 have HB := zA (Below.refl w.heap.size w)
 have H : (impl_Moments_hankel.l0 k a1 ([] : List (List Int)) a1 0 a0_0 l0_1) = some r := h
 clear h
 have H' := zA H
 clear H
 go_enter Try.func115, Try.ntmps115
 go_wp2_with (first | ((with_reducible refine gate_dst (N := 2) rfl ?_); refine bx 2 #[.int .i64 a0_0, .slice A0_1 l0_1.length c0_1] 31 ?_; intro gb1262 hg w3 hbox hb; replace HO0_1 := zA (Kd.V_below (Kd.V_elderB (by (with_reducible repeat (first | apply Kd.V_alloc | apply Kd.V_drewN | apply Kd.V_drew)); exact HO0_1.out) gb1262 (Nat.le_of_eq hg.symm)) hb); have BK1262 := zA (hbox); have GW1262 := gq HB hg; have GE1262 := gq HB hg; replace HB := xH HB hb; have := geI GE1262; clear hb hbox hg))
 go_loopg [5, 8] k (fun kq v5 v8 w' => ∃ (x5_1 : List (List Int)) (x8_1 : Int), v8 = .int .i64 x8_1 ∧ Aside0 (impl_Moments_hankel.l0 kq a1 x5_1 a1 x8_1 a0_0 l0_1 = some r) ∧ Aside0 (kq ≤ k) ∧ Aside0 (Kd.N (Kd.slice 2 (Kd.int .i64)) 22 w' w.heap.size (fun k_ => (P0_1_ k_ ∨ w.heap.size ≤ k_) ∧ k_ ≠ gb1262) v5 x5_1) ∧ Aside0 (Kd.V (Kd.int .i64) 2 w' w.heap.size (fun k_ => (P0_1_ k_ ∨ w.heap.size ≤ k_) ∧ some k_ ≠ (v5 : Value).ownBlock ∧ k_ ≠ gb1262) (.slice A0_1 l0_1.length c0_1) l0_1) ∧ Aside0 (w'.heap[gb1262]? = some (.cells #[.int .i64 a0_0, (.slice A0_1 l0_1.length c0_1)] 31 (0, 0))) ∧ Aside0 (Below w.heap.size w w'))
 case atStart => exact ⟨(([] : List (List Int))), (0), (by first | rfl | (simp; done) | (simp [*]; done)), H', ⟨Nat.le_refl _⟩, ⟨by first | exact Kd.S_nil _ _ _ _ _ | exact Kd.N_nil _ _ _ _ _ | exact Kd.V_nil _ _ _ _ _ | exact Kd.Q_nil _ _ _ _ _ | exact Kd.R_nil _ _ _ _ _⟩, ⟨by (with_reducible repeat (first | apply Kd.V_alloc | apply Kd.V_drewN | apply Kd.V_drew)); exact Kd.V_mono HO0_1.out (fun _ hk => ⟨hk.1, ⟨(by simp [Value.ownBlock]), hk.2⟩⟩)⟩, ⟨uB BK1262.out⟩, ⟨uH HB.out⟩⟩
 case round =>
  clear H'
  (try clear c1);(try clear p2)
  obtain ⟨x5_1, x8_1, rfl, HA, HK1, HO_5, HO_1263001, BK1262, HB⟩ := hrel
  cases gk with
  | zero => exact absurd HA.out (by simp [impl_Moments_hankel.l0])
  | succ k1 =>
   have H := HA.out
   clear HA
   simp only [impl_Moments_hankel.l0] at H
   by_cases c4 : x8_1 < a1
   rotate_left
   ·rw [if_neg c4] at H
    have c4b0 : decide (x8_1 < a1) = false := decide_eq_false c4
    clear c4
    replace H := Option.bind_eq_some_iff.mp H
    obtain ⟨t1271, A120, H⟩ := H
    replace H : ((impl_field_determinant.f k1 t1271 x5_1).bind fun t1272 => (some t1272)) = some r := H
    have A12 := zA A120
    clear A120
    replace H := Option.bind_eq_some_iff.mp H
    obtain ⟨t1272, A130, H⟩ := H
    replace H : (some t1272) = some r := H
    have A13 := zA A130
    clear A130
    obtain rfl := Option.some.inj H
    have hcz14_0 := bc BK1262 0
    have hcz14_1 := bc BK1262 1
    have hfz14_0 := bf BK1262 0
    have hfz14_1 := bf BK1262 1
    go_wp2_with (first | ((with_reducible refine gate_callee (f := 100) rfl ?_); refine gL (some 23) Try.func100 #[.agg #[.int .i64 a0_0, .slice A0_1 l0_1.length c0_1]] ?_; (with_reducible refine (impl_Moments_field.calls a0_0 _ _ l0_1 t1271 _ ?side1 ?side2 A12.out).mono ?_); (case side1 => exact uC ((Kd.V_reads' HO_1263001.out).2.2)); (case side2 => exact (Kd.V_reads' HO_1263001.out).2.1); rintro e w15 ⟨rfl, hb⟩; refine ⟨_, rfl, ?_⟩; replace HO_5 := zA (Kd.N_below (by (with_reducible repeat (first | apply Kd.N_alloc | apply Kd.N_drewN | apply Kd.N_drew)); exact HO_5.out) hb); replace HO_1263001 := zA (Kd.V_below (by (with_reducible repeat (first | apply Kd.V_alloc | apply Kd.V_drewN | apply Kd.V_drew)); exact HO_1263001.out) hb); replace BK1262 := xB BK1262 hb; replace HB := xH HB hb; (try clear hb); (try clear hb2); (try clear hk); (try clear hi); obtain ⟨Ao16, co16, eo16⟩ := Kd.N_slice HO_5.out; subst eo16) | ((with_reducible refine gate_callee (f := 145) rfl ?_); refine gL (some 25) Try.func145 #[.int .i64 t1271, .slice Ao16 x5_1.length co16] ?_; (with_reducible refine (impl_field_determinant.calls k1 t1271 _ _ x5_1 t1272 _ ?side1 ?side2 A13.out).mono ?_); (case side1 => exact uC ((Kd.N_reads' HO_5.out).2.2)); (case side2 => exact (Kd.N_reads' HO_5.out).2.1); rintro e w17 ⟨rfl, hb⟩; refine ⟨_, rfl, ?_⟩; replace HO_5 := zA (Kd.N_below (by (with_reducible repeat (first | apply Kd.N_alloc | apply Kd.N_drewN | apply Kd.N_drew)); exact HO_5.out) hb); replace HO_1263001 := zA (Kd.V_below (by (with_reducible repeat (first | apply Kd.V_alloc | apply Kd.V_drewN | apply Kd.V_drew)); exact HO_1263001.out) hb); replace BK1262 := xB BK1262 hb; replace HB := xH HB hb; (try clear hb); (try clear hb2); (try clear hk); (try clear hi)))
    go_ret
    exact ⟨by first | rfl | (simp [errW_none, errW_some] <;> rfl) | (simp [*, errW_none, errW_some] <;> rfl), uH HB.out⟩

   rw [if_pos c4] at H
   have c4b0 : decide (x8_1 < a1) = true := decide_eq_true c4
   clear c4
   by_cases c5 : 0 ≤ x8_1
   rotate_left
   ·rw [if_neg c5] at H
    exact absurd H (by simp)
   rw [if_pos c5] at H
   have c5b0 := eq_true c5
   have c5b1 : decide (0 ≤ x8_1) = true := decide_eq_true c5
   clear c5
   by_cases c6 : x8_1 ≤ (wrap64 (x8_1 + a1))
   rotate_left
   ·rw [if_neg c6] at H
    exact absurd H (by simp)
   rw [if_pos c6] at H
   have c6b0 := eq_true c6
   have c6b1 : decide (x8_1 ≤ (wrap64 (x8_1 + a1))) = true := decide_eq_true c6
   by_cases c7 : (wrap64 (x8_1 + a1)) ≤ (l0_1.length : Int)
   rotate_left
   ·rw [if_neg c7] at H
    exact absurd H (by simp)
   rw [if_pos c7] at H
   have c7b0 := eq_true c7
   have c7b1 : decide ((wrap64 (x8_1 + a1)) ≤ (l0_1.length : Int)) = true := decide_eq_true c7
   obtain ⟨y1263, hy1263⟩ : ∃ y_ : List Int, y_ = ((l0_1.take ((wrap64 (x8_1 + a1)) : Int).toNat).drop (x8_1 : Int).toNat) := ⟨_, rfl⟩
   replace H : (if x5_1.length < 5864062014805 then (impl_Moments_hankel.l0 k1 a1 (x5_1 ++ [y1263]) a1 (wrap64 (x8_1 + 1)) a0_0 l0_1) else (none)) = some r := by first | (rw [hy1263]; exact H) | exact H
   have Ny1263 := zA hy1263
   clear hy1263
   by_cases c8 : x5_1.length < 5864062014805
   rotate_left
   ·rw [if_neg c8] at H
    exact absurd H (by simp)
   rw [if_pos c8] at H
   have LMc8 := zA c8
   clear c8
   obtain ⟨y1268, hy1268⟩ : ∃ y_ : List (List Int), y_ = (x5_1 ++ [y1263]) := ⟨_, rfl⟩
   replace H : (impl_Moments_hankel.l0 k1 a1 y1268 a1 (wrap64 (x8_1 + 1)) a0_0 l0_1) = some r := by first | (rw [hy1268]; exact H) | exact H
   have Ny1268 := zA hy1268
   clear hy1268
   have H' := zA H
   clear H
   have hcz9_0 := bc BK1262 0
   have hcz9_1 := bc BK1262 1
   have hfz9_0 := bf BK1262 0
   have hfz9_1 := bf BK1262 1
   have q10 : ((wrap64 (x8_1 + a1)) : Int) ≤ ((l0_1.length : Int) : Int) := of_decide_eq_true (by first | (with_reducible assumption) | assumption)
   obtain ⟨i010, hi010, _, hsz10, _⟩ := info_parts info2
   have hroom10 : l0_1.length ≤ c0_1 := (Kd.V_reads' HO_1263001.out).2.1
   have hC10 : Kd.F (Kd.int .i64) _ _ A0_1 l0_1.length l0_1 := (Kd.V_at (base := w.heap.size) HO_1263001.out).2.2
   have ql10 : (x8_1 : Int) ≤ ((wrap64 (x8_1 + a1)) : Int) := of_decide_eq_true (by first | (with_reducible assumption) | assumption)
   have q010 : (0 : Int) ≤ (x8_1 : Int) := of_decide_eq_true (by first | (with_reducible assumption) | assumption)
   have hcut10 := cut_mid (P := Try.prog) 22 2 .i64 .i64 Try.underlying22 hi010 1 hsz10 A0_1 l0_1.length c0_1 x8_1 (wrap64 (x8_1 + a1)) q010 ql10 q10 hroom10
   have hr10 := Kd.F_mid (lo := (x8_1 : Int).toNat) (hi := ((wrap64 (x8_1 + a1)) : Int).toNat) (c := c0_1) hC10 (by omega) (by omega) hroom10
   obtain ⟨A10, hA10⟩ : ∃ A1, A1 = (if c0_1 = (x8_1 : Int).toNat then A0_1 else (A0_1 : Option Addr).map (·.add ((x8_1 : Int).toNat * 1))) := ⟨_, rfl⟩
   obtain ⟨c10, hc10⟩ : ∃ c1, c1 = c0_1 - (x8_1 : Int).toNat := ⟨_, rfl⟩
   have hy10 : y1263.length = ((wrap64 (x8_1 + a1)) : Int).toNat - (x8_1 : Int).toNat := (by rw [Ny1263.out, List.length_drop, List.length_take] <;> omega)
   rw [show ((l0_1).take ((wrap64 (x8_1 + a1)) : Int).toNat).drop (x8_1 : Int).toNat = y1263 from Ny1263.out.symm] at hr10
   replace hr10 : Kd.F (Kd.int .i64) _ _ A10 y1263.length y1263 := (by rw [hA10]; exact hr10)
   rw [← hy10, ← hA10, ← hc10] at hcut10
   have HO1267 := zA (show Kd.V (Kd.int .i64) 2 _ w.heap.size _ (.slice A10 y1263.length c10) y1263 from Kd.V_mk (by rw [hy10, hc10]; exact Nat.sub_le_sub_right (Nat.le_trans (by omega) hroom10) _) hr10)
   have HC1267 := zA (show y1263.length ≤ c10 from by rw [hy10, hc10]; exact Nat.sub_le_sub_right (Nat.le_trans (by omega) hroom10) _)
   clear hr10 hC10 hroom10 hi010 hsz10 hc10
   have KY10 := zA hy10
   have KA10 := zA hA10
   clear hy10 hA10
   replace q10 := eq_true q10
   go_wp2_with (first | ((with_reducible refine gate_builtin (b := .append) (xs := #[.tmp 11, .tmp 19]) rfl ?_); at_builtin; refine Kd.N_append (Kd.slice 2 (Kd.int .i64)) (w0 := w) w.heap.size rfl (.tmp 11) (.tmp 19) 89 22 (.slice none 0 0) 24 rfl Try.underlying89 info22 rfl (by decide) (by omega) u5 x5_1 y1263 [.slice A10 y1263.length c10] (fun k_ => (P0_1_ k_ ∨ w.heap.size ≤ k_) ∧ k_ ≠ gb1262) (fun k_ => ((fun k_ => (P0_1_ k_ ∨ w.heap.size ≤ k_) ∧ k_ ≠ gb1262)) k_ ∧ some k_ ≠ (u5 : Value).ownBlock) rfl rfl ?aP (fun _ hk => hk) ?aF ?aO ?aB ?aS ?aL ?_; (case aP => exact (Kd.FK_slice_mk (Kd.V_reads' (Kd.V_mono (ok' := (fun k_ => ((fun k_ => (P0_1_ k_ ∨ w.heap.size ≤ k_) ∧ k_ ≠ gb1262)) k_ ∧ some k_ ≠ (u5 : Value).ownBlock)) (HO1267.out) (fun k_ hk => ⟨⟨hk.1, hk.2.2⟩, hk.2.1⟩))).2.1 (Kd.V_F (Kd.V_mono (ok' := (fun k_ => ((fun k_ => (P0_1_ k_ ∨ w.heap.size ≤ k_) ∧ k_ ≠ gb1262)) k_ ∧ some k_ ≠ (u5 : Value).ownBlock)) (HO1267.out) (fun k_ hk => ⟨⟨hk.1, hk.2.2⟩, hk.2.1⟩))))); (case aB => exact (uH HB.out)); (case aF => exact (fun k_ hk => ⟨(.inr (Nat.le_trans (below_size (uH HB.out)) hk)), Kd.freshB (g := gb1262) (o := .cells #[.int .i64 a0_0, .slice A0_1 l0_1.length c0_1] 31 (0, 0)) (uB BK1262.out) k_ hk⟩)); (case aO => exact (by (with_reducible repeat (first | apply Kd.N_alloc | apply Kd.N_drewN | apply Kd.N_drew)); exact HO_5.out)); (case aS => exact (below_size (uH HB.out))); (case aL => have := LMc8.out; omega); intro v1269 w11 ho hb hg hat; rw [← Ny1268.out] at ho; replace HO_1263001 := zA (Kd.V_afterv (ok := (fun k_ => (P0_1_ k_ ∨ w.heap.size ≤ k_) ∧ k_ ≠ gb1262)) (by (with_reducible repeat (first | apply Kd.V_alloc | apply Kd.V_drewN | apply Kd.V_drew)); exact Kd.V_mono HO_1263001.out (fun _ hk => ⟨⟨hk.1, hk.2.2⟩, hk.2.1⟩)) hg hat); replace BK1262 := zA (blk_grown (g := gb1262) (o := .cells #[.int .i64 a0_0, .slice A0_1 l0_1.length c0_1] 31 (0, 0)) (uB BK1262.out) hg (Kd.N_ne HO_5.out BK1262.out (by decide))); replace HO1267 := zA (Kd.V_afterv (ok := (fun k_ => (P0_1_ k_ ∨ w.heap.size ≤ k_) ∧ k_ ≠ gb1262)) (by (with_reducible repeat (first | apply Kd.V_alloc | apply Kd.V_drewN | apply Kd.V_drew)); exact Kd.V_mono HO1267.out (fun _ hk => ⟨⟨hk.1, hk.2.2⟩, hk.2.1⟩)) hg hat); replace HB := zA (hb); have HO1270 := zA (ho); clear HO_5 ho hb hg hat))
   go_roundg k1
   case measure => have := HK1.out; omega
   case rel => exact ⟨(y1268), (wrap64 (x8_1 + 1)), (by first | rfl | (simp; done) | (simp [*]; done)), H', ⟨by have := HK1.out; omega⟩, ⟨by (with_reducible repeat (first | apply Kd.N_alloc | apply Kd.N_drewN | apply Kd.N_drew)); exact HO1270.out⟩, ⟨by (with_reducible repeat (first | apply Kd.V_alloc | apply Kd.V_drewN | apply Kd.V_drew)); exact Kd.V_mono HO_1263001.out (fun _ hk => ⟨hk.1.1, ⟨hk.2, hk.1.2⟩⟩)⟩, ⟨uB BK1262.out⟩, ⟨uH HB.out⟩⟩
/-! ### impl_HankelDeterminant: function 49 -/
def impl_HankelDeterminant.f (k : Nat) (a0_0 : Int) (l0_1 : List Int) (a1 : Int) : Option (Int × Int) := (impl_HankelDeterminant_1.f a0_0 l0_1 a1).bind fun t1275 => ((impl_momentsCode.f k a0_0 l0_1 t1275 ([] : List (List Int))).bind fun t1276 => (if t1276 = 0 then ((impl_Moments_hankel.f k a0_0 l0_1 a1).bind fun t1277 => (some (t1277, 0))) else (some (0, t1276))))
theorem impl_HankelDeterminant.mono : ∀ a0 a1 a2 k, LeO (impl_HankelDeterminant.f k a0 a1 a2) (impl_HankelDeterminant.f (k + 1) a0 a1 a2) := by
 intro a0 a1 a2 k
 unfold impl_HankelDeterminant.f
 repeat' first
   | (with_reducible exact impl_Moments_hankel.mono _ _ _ _)
   | (with_reducible exact impl_momentsCode.mono _ _ _ _ _)
   | (with_reducible exact LeO.refl _)
   | (with_reducible exact LeO.none _)
   | (with_reducible refine LeO.ite ?_ ?_)
   | (with_reducible refine LeO.bind ?_ (fun _ => ?_))
   | exact impl_Moments_hankel.mono _ _ _ _
   | exact impl_momentsCode.mono _ _ _ _ _
   | exact LeO.none _
   | refine LeO.ite ?_ ?_
   | refine LeO.bind ?_ (fun _ => ?_)
set_option maxHeartbeats 8000000 in
set_option maxRecDepth 100000 in
theorem impl_HankelDeterminant.calls (k : Nat) (a0_0 : Int) (A0_1 : Option Addr) (c0_1 : Nat) (l0_1 : List Int) (a1 : Int) (r1 : Int) (r2 : Int) (w : World) (hr0_1 : Kd.C (Kd.int .i64) w A0_1 l0_1.length l0_1) (hc0_1 : l0_1.length ≤ c0_1) (h : impl_HankelDeterminant.f k a0_0 l0_1 a1 = some (r1, r2)) :
  Calls Try.prog 49 #[.agg #[.int .i64 a0_0, .slice A0_1 l0_1.length c0_1], .int .i64 a1] w fun e w' => e = .returned (.tuple #[.int .i64 r1, .int .i64 r2]) ∧ Below w.heap.size w w' := by
 have hu31 := Try.underlying31
 have hmf : ∀ (fn_ : Fn) (first_ cap_ : Array Value) (w_ : World), (Instr.makeFunc fn_ first_ cap_).run Try.prog w_ = .ok (.func fn_ first_ cap_) w_ := fun _ _ _ _ => rfl
 have HR0_1 := zA hr0_1
 have HC0_1 := zA hc0_1
 clear hr0_1 hc0_1
 have HB := zA (Below.refl w.heap.size w)
 have H : ((impl_HankelDeterminant_1.f a0_0 l0_1 a1).bind fun t1275 => ((impl_momentsCode.f k a0_0 l0_1 t1275 ([] : List (List Int))).bind fun t1276 => (if t1276 = 0 then ((impl_Moments_hankel.f k a0_0 l0_1 a1).bind fun t1277 => (some (t1277, 0))) else (some (0, t1276))))) = some (r1, r2) := h
 clear h
 replace H := Option.bind_eq_some_iff.mp H
 obtain ⟨t1275, A30, H⟩ := H
 replace H : ((impl_momentsCode.f k a0_0 l0_1 t1275 ([] : List (List Int))).bind fun t1276 => (if t1276 = 0 then ((impl_Moments_hankel.f k a0_0 l0_1 a1).bind fun t1277 => (some (t1277, 0))) else (some (0, t1276)))) = some (r1, r2) := H
 have A3 := zA A30
 clear A30
 replace H := Option.bind_eq_some_iff.mp H
 obtain ⟨t1276, A40, H⟩ := H
 replace H : (if t1276 = 0 then ((impl_Moments_hankel.f k a0_0 l0_1 a1).bind fun t1277 => (some (t1277, 0))) else (some (0, t1276))) = some (r1, r2) := H
 have A4 := zA A40
 clear A40
 by_cases c5 : t1276 = 0
 rotate_left
 ·rw [if_neg c5] at H
  have c5b0 : (t1276 == 0) = false := beq_eq_false_iff_ne.mpr c5
  have c5b1 : (t1276 != 0) = true := bne_iff_ne.mpr c5
  simp only [Option.some.injEq, Prod.mk.injEq] at H
  obtain ⟨rfl, rfl⟩ := H
  go_enter Try.func49, Try.ntmps49
  go_wp2_with (first | ((with_reducible refine gate_dst (N := 2) rfl ?_); refine bx 2 #[.int .i64 a0_0, .slice A0_1 l0_1.length c0_1] 31 ?_; intro gb1273 hg w15 hbox hb; have BK1273 := zA (hbox); have GW1273 := gq HB hg; have GE1273 := gq HB hg; replace HB := xH HB hb; have := geI GE1273; clear hb hbox hg) | ((with_reducible refine gate_dst (N := 3) rfl ?_); refine bx 3 #[.int .i64 a1] 2 ?_; intro gb1274 hg w16 hbox hb; have BK1274 := zA (hbox); have GW1274 := gq HB hg; have GE1274 := gq HB hg; replace HB := xH HB hb; have NB1273_1274 := zA ((by rw [hg]; exact neL BK1273 : gb1273 ≠ gb1274)); have NB1274_1273 := zA ((by rw [hg]; exact neG BK1273 : gb1274 ≠ gb1273)); replace BK1273 := xB BK1273 hb; have := geI GE1274; clear hb hbox hg; have hnb17 := NB1273_1274.out; have hnc17 := NB1274_1273.out; have hcz18_0 := bc BK1273 0; have hcz18_1 := bc BK1273 1; have hfz18_0 := bf BK1273 0; have hfz18_1 := bf BK1273 1) | ((with_reducible refine gate_callee (f := 93) rfl ?_); refine gL (some 9) Try.func93 #[.agg #[.int .i64 a0_0, .slice A0_1 l0_1.length c0_1], (.func (.func 113) #[] #[.pointer (some ⟨gb1273, 0, none⟩), .pointer (some ⟨gb1274, 0, none⟩)]), .slice none 0 0] ?_; (refine (impl_momentsCode.calls k a0_0 _ _ l0_1 _ t1275 _ _ ([] : List (List Int)) t1276 _ ?side1 ?side2 ?side3 ?side4 ?side5 A4.out).mono ?_); (case side1 => exact uC ((Kd.C_below HR0_1.out HB.out))); (case side2 => exact HC0_1.out); (case side3 => exact FnB.of Try.func113 (by kernel_rfl) rfl (fun W_ hW_ => calls_of_args (args' := #[.pointer (some ⟨gb1273, 0, none⟩), .pointer (some ⟨gb1274, 0, none⟩)]) (by simp) ((impl_HankelDeterminant_1.calls _ a0_0 _ _ l0_1 _ a1 _ W_ (blk_below (g := gb1273) (o := .cells #[.int .i64 a0_0, .slice A0_1 l0_1.length c0_1] 31 (0, 0)) (uB BK1273.out) hW_) (Kd.C_below (by exact uC ((Kd.C_below HR0_1.out HB.out))) hW_) (by exact HC0_1.out) (blk_below (g := gb1274) (o := .cells #[.int .i64 a1] 2 (0, 0)) (uB BK1274.out) hW_) A3.out).mono fun e_ W2_ h_ => ⟨h_.1, h_.2⟩))); (case side4 => exact Kd.C_nil _ _); (case side5 => exact Nat.le_refl _); rintro e w19 ⟨rfl, hb⟩; refine ⟨_, rfl, ?_⟩; replace BK1273 := xB BK1273 hb; replace BK1274 := xB BK1274 hb; replace HB := xH HB hb; (try clear hb); (try clear hb2); (try clear hk); (try clear hi)))
  go_ret2
  exact ⟨by first | rfl | (simp [errW_none, errW_some] <;> rfl) | (simp [*, errW_none, errW_some] <;> rfl), uH HB.out⟩

 rw [if_pos c5] at H
 have c5b0 : (t1276 == 0) = true := beq_iff_eq.mpr c5
 have c5b1 : (t1276 != 0) = false := bne_eq_false_iff_eq.mpr c5
 clear c5
 replace H := Option.bind_eq_some_iff.mp H
 obtain ⟨t1277, A60, H⟩ := H
 replace H : (some (t1277, 0)) = some (r1, r2) := H
 have A6 := zA A60
 clear A60
 simp only [Option.some.injEq, Prod.mk.injEq] at H
 obtain ⟨rfl, rfl⟩ := H
 go_enter Try.func49, Try.ntmps49
 go_wp2_with (first | ((with_reducible refine gate_dst (N := 2) rfl ?_); refine bx 2 #[.int .i64 a0_0, .slice A0_1 l0_1.length c0_1] 31 ?_; intro gb1273 hg w7 hbox hb; have BK1273 := zA (hbox); have GW1273 := gq HB hg; have GE1273 := gq HB hg; replace HB := xH HB hb; have := geI GE1273; clear hb hbox hg) | ((with_reducible refine gate_dst (N := 3) rfl ?_); refine bx 3 #[.int .i64 a1] 2 ?_; intro gb1274 hg w8 hbox hb; have BK1274 := zA (hbox); have GW1274 := gq HB hg; have GE1274 := gq HB hg; replace HB := xH HB hb; have NB1273_1274 := zA ((by rw [hg]; exact neL BK1273 : gb1273 ≠ gb1274)); have NB1274_1273 := zA ((by rw [hg]; exact neG BK1273 : gb1274 ≠ gb1273)); replace BK1273 := xB BK1273 hb; have := geI GE1274; clear hb hbox hg; have hnb9 := NB1273_1274.out; have hnc9 := NB1274_1273.out; have hcz10_0 := bc BK1273 0; have hcz10_1 := bc BK1273 1; have hfz10_0 := bf BK1273 0; have hfz10_1 := bf BK1273 1) | ((with_reducible refine gate_callee (f := 93) rfl ?_); refine gL (some 9) Try.func93 #[.agg #[.int .i64 a0_0, .slice A0_1 l0_1.length c0_1], (.func (.func 113) #[] #[.pointer (some ⟨gb1273, 0, none⟩), .pointer (some ⟨gb1274, 0, none⟩)]), .slice none 0 0] ?_; (refine (impl_momentsCode.calls k a0_0 _ _ l0_1 _ t1275 _ _ ([] : List (List Int)) t1276 _ ?side1 ?side2 ?side3 ?side4 ?side5 A4.out).mono ?_); (case side1 => exact uC ((Kd.C_below HR0_1.out HB.out))); (case side2 => exact HC0_1.out); (case side3 => exact FnB.of Try.func113 (by kernel_rfl) rfl (fun W_ hW_ => calls_of_args (args' := #[.pointer (some ⟨gb1273, 0, none⟩), .pointer (some ⟨gb1274, 0, none⟩)]) (by simp) ((impl_HankelDeterminant_1.calls _ a0_0 _ _ l0_1 _ a1 _ W_ (blk_below (g := gb1273) (o := .cells #[.int .i64 a0_0, .slice A0_1 l0_1.length c0_1] 31 (0, 0)) (uB BK1273.out) hW_) (Kd.C_below (by exact uC ((Kd.C_below HR0_1.out HB.out))) hW_) (by exact HC0_1.out) (blk_below (g := gb1274) (o := .cells #[.int .i64 a1] 2 (0, 0)) (uB BK1274.out) hW_) A3.out).mono fun e_ W2_ h_ => ⟨h_.1, h_.2⟩))); (case side4 => exact Kd.C_nil _ _); (case side5 => exact Nat.le_refl _); rintro e w11 ⟨rfl, hb⟩; refine ⟨_, rfl, ?_⟩; replace BK1273 := xB BK1273 hb; replace BK1274 := xB BK1274 hb; replace HB := xH HB hb; (try clear hb); (try clear hb2); (try clear hk); (try clear hi); have hcz12_0 := bc BK1273 0; have hcz12_1 := bc BK1273 1; have hfz12_0 := bf BK1273 0; have hfz12_1 := bf BK1273 1; have hcz13_0 := bc BK1274 0; have hfz13_0 := bf BK1274 0) | ((with_reducible refine gate_callee (f := 115) rfl ?_); refine gL (some 15) Try.func115 #[.agg #[.int .i64 a0_0, .slice A0_1 l0_1.length c0_1], .int .i64 a1] ?_; (with_reducible refine (impl_Moments_hankel.calls k a0_0 (fun k_ => k_ < w.heap.size) _ _ l0_1 a1 t1277 _ ?side1 A6.out).mono ?_); (case side1 => exact Kd.V_mk HC0_1.out (Kd.F_below (Kd.C_F (Kd.heap_int .i64) HR0_1.out) (uH HB.out))); rintro e w14 ⟨rfl, hb⟩; refine ⟨_, rfl, ?_⟩; replace BK1273 := xB BK1273 hb; replace BK1274 := xB BK1274 hb; replace HB := xH HB hb; (try clear hb); (try clear hb2); (try clear hk); (try clear hi)))
 go_ret2
 exact ⟨by first | rfl | (simp [errW_none, errW_some] <;> rfl) | (simp [*, errW_none, errW_some] <;> rfl), uH HB.out⟩
/- HankelDeterminant and OrderOf: for all arguments the program and the reference come to one value; no condition. -/
/-- The first i rows of the Hankel matrix of k rows. -/
def hrows (l : List Int) (k i : Nat) : List (List Int) := (List.range i).map fun j => (l.take (j + k)).drop j
def hankV (p : Int) (l : List Int) (k : Nat) : Int := detV p (hrows l k k)
theorem hrows_len (l : List Int) (k i : Nat) : (hrows l k i).length = i := by simp [hrows]
theorem hrows_succ (l : List Int) (k i : Nat) : hrows l k (i + 1) = hrows l k i ++ [(l.take (i + k)).drop i] := by unfold hrows; rw [List.range_succ, List.map_append, List.map_singleton]
theorem hrows_sqr {p : Int} (hp : Pm p) {l : List Int} (hl : Nm p l) {k : Nat} (hk : k ≤ 1000) (h : 2 * k ≤ l.length + 1) : sqrB p (hrows l k k) := by
  refine ⟨⟨hp.two, hp.top⟩, by rw [hrows_len]; exact hk, fun r hr => ?_⟩
  obtain ⟨j, hj, rfl⟩ := List.mem_map.1 hr
  have hj := List.mem_range.1 hj
  refine ⟨by rw [hrows_len, List.length_drop, List.length_take]; omega, (hl.take _).drop _⟩
theorem det_eq {p : Int} {rows : List (List Int)} (h : sqrB p rows) (n : Nat) : impl_field_determinant.f n p rows = some (detV p rows) := by unfold impl_field_determinant.f; rw [if_pos h]
theorem sdet_eq {p : Int} {rows : List (List Int)} (h : sqrB p rows) (n : Nat) : spec_l02Det.f n p rows = some (detV p rows) := by unfold spec_l02Det.f; rw [if_pos h]
section
variable {p : Int} (hp : Pm p) {l : List Int} (nl : Nm p l) (hl : l.length ≤ 24) {k : Nat} (hk : 2 * k ≤ l.length + 1)
include hp nl hl hk
theorem specHank_l0 (d : Nat) : ∀ i : Nat, i + d = k → Ev (fun n => spec_l02Hankel.l0 n (k : Int) (hrows l k i) (i : Int) p l) (hankV p l k) := by
  induction d with
  | zero =>
    intro i hi
    obtain rfl : i = k := by omega
    refine Ev.step (fun n => by rw [spec_l02Hankel.l0]) ?_
    exact Ev.neg (by omega) (Ev.bind ⟨0, fun n _ => sdet_eq (hrows_sqr hp nl (by omega) hk) n⟩ (Ev.now _))
  | succ d ih =>
    intro i hi
    refine Ev.step (fun n => by rw [spec_l02Hankel.l0]) ?_
    rw [wadd (i := i) (j := k) (n := 1000) (by omega) (by omega), wsucc (i := i) (n := k) (by omega) (by omega)]
    refine Ev.pos (by omega) (Ev.pos (by omega) (Ev.pos (by omega) (Ev.pos (by omega) ?_)))
    rw [toNat_nat, toNat_nat]
    refine Ev.bindE (own_eq _ (by rw [List.length_drop, List.length_take]; unfold Sm; omega)) (Ev.pos (by rw [hrows_len]; omega) ?_)
    rw [← hrows_succ]
    exact ih (i + 1) (by omega)
theorem implHank_l0 (d : Nat) : ∀ i : Nat, i + d = k → Ev (fun n => impl_Moments_hankel.l0 n (k : Int) (hrows l k i) (k : Int) (i : Int) p l) (hankV p l k) := by
  induction d with
  | zero =>
    intro i hi
    obtain rfl : i = k := by omega
    refine Ev.step (fun n => by rw [impl_Moments_hankel.l0]) ?_
    exact Ev.neg (by omega) (Ev.bindE (a := p) rfl (Ev.bind ⟨0, fun n _ => det_eq (hrows_sqr hp nl (by omega) hk) n⟩ (Ev.now _)))
  | succ d ih =>
    intro i hi
    refine Ev.step (fun n => by rw [impl_Moments_hankel.l0]) ?_
    rw [wadd (i := i) (j := k) (n := 1000) (by omega) (by omega), wsucc (i := i) (n := k) (by omega) (by omega)]
    refine Ev.pos (by omega) (Ev.pos (by omega) (Ev.pos (by omega) (Ev.pos (by omega) (Ev.pos (by rw [hrows_len]; omega) ?_))))
    rw [toNat_nat, toNat_nat, ← hrows_succ]
    exact ih (i + 1) (by omega)
theorem specHank_ev : Ev (fun n => spec_l02Hankel.f n p l (k : Int)) (hankV p l k) := specHank_l0 hp nl hl hk k 0 (by omega)
theorem implHank_ev : Ev (fun n => impl_Moments_hankel.f n p l (k : Int)) (hankV p l k) := implHank_l0 hp nl hl hk k 0 (by omega)
end
theorem half_eq {l : List Int} (hl : Sm l.length) : wrap64 (Int.tdiv (wrap64 ((l.length : Int) + 1)) 2) = (((l.length + 1) / 2 : Nat) : Int) := by
  unfold Sm at hl
  rw [wrap_id (x := (l.length : Int) + 1) (by omega) (by omega), Int.tdiv_eq_ediv_of_nonneg (by omega), wrap_id (by omega) (by omega)]
  omega
theorem isTold_eq (p : Int) {l : List Int} (hl : Sm l.length) (a : Int) : impl_Moments_isTold.f p l a = some (decide (0 ≤ a ∧ a ≤ (((l.length + 1) / 2 : Nat) : Int))) := by
  unfold impl_Moments_isTold.f impl_length_int64.f
  by_cases h : a ≥ 0
  · rw [if_pos h]
    simp only [Option.bind_some, half_eq hl]
    congr 2
    simp [h]
  · rw [if_neg h]
    congr 1
    simp [show ¬ 0 ≤ a from h]
theorem HankelDeterminant_both (p : Int) (l : List Int) (a : Int) (hl : Sm l.length) : ∃ v : Int × Int, Ev (fun k => spec_HankelDeterminant.f k p l a) v ∧ Ev (fun k => impl_HankelDeterminant.f k p l a) v := by
  have hc := fun b => momentsCode_ev p l hl b [] (by simp [Sm]) (fun l h => by cases h)
  have h1 : impl_HankelDeterminant_1.f p l a = some (decide (0 ≤ a ∧ a ≤ (((l.length + 1) / 2 : Nat) : Int))) := by
    unfold impl_HankelDeterminant_1.f
    rw [isTold_eq p hl]; rfl
  by_cases h : momB p l = true
  · rw [h] at hc
    by_cases ha : 0 ≤ a ∧ a ≤ (((l.length + 1) / 2 : Nat) : Int)
    · have hlen := (momB.len h).2
      obtain ⟨k, rfl⟩ := Int.eq_ofNat_of_zero_le ha.1
      refine ⟨(hankV p l k, 0), ?_, ?_⟩
      · unfold spec_HankelDeterminant.f
        rw [half_eq hl]
        exact Ev.bind (specAre_ev p l hl) (Ev.pos h (Ev.bindE (in_eq _ _ _) (Ev.pos (decide_eq_true ha) (Ev.bind (specHank_ev (momB.pm h) (momB.nm h) hlen (by omega)) (Ev.now _)))))
      · unfold impl_HankelDeterminant.f
        rw [decide_eq_true ha] at h1
        exact Ev.bindE h1 (Ev.bind (hc true) (Ev.pos rfl (Ev.bind (implHank_ev (momB.pm h) (momB.nm h) hlen (by omega)) (Ev.now _))))
    · refine ⟨(0, 2), ?_, ?_⟩
      · unfold spec_HankelDeterminant.f
        rw [half_eq hl]
        exact Ev.bind (specAre_ev p l hl) (Ev.pos h (Ev.bindE (in_eq _ _ _) (Ev.neg (by simpa using ha) (Ev.now _))))
      · unfold impl_HankelDeterminant.f
        rw [decide_eq_false ha] at h1
        exact Ev.bindE h1 (Ev.bind (hc false) (Ev.neg (by simp) (Ev.now _)))
  · rw [Bool.eq_false_iff.2 h] at hc
    refine ⟨(0, 1), ?_, ?_⟩
    · unfold spec_HankelDeterminant.f
      exact Ev.bind (specAre_ev p l hl) (Ev.neg h (Ev.now _))
    · unfold impl_HankelDeterminant.f
      exact Ev.bindE h1 (Ev.bind (hc _) (Ev.neg (by simp) (Ev.now _)))
end Go.Proofs.Ytokkabgkjhpecaa.Pr
