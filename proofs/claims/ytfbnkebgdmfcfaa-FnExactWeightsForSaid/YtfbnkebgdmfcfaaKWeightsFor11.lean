/- Texts of this session in one: what functions of the program compute, and plain facts of it, under the conditions that each theorem names. -/
import Derived.Below
import Derived.ChangeOld
import Derived.Lib.SmallJoins
import Derived.OpenShut
import Derived.ProofKit
import Derived.ShutString
import Derived.SizedLaws
import Derived.Test.YtfbnkebgdmfcfaaRows
import Derived.WalkKit
import Derived.Test.YtfbnkebgdmfcfaaKFimplWeightsFor
import Derived.Test.YtfbnkebgdmfcfaaKFlawsFnExactWeightsFor
import Derived.Test.YtfbnkebgdmfcfaaKFspecWeightsFor
import Derived.Test.YtfbnkebgdmfcfaaKWeightsFor1
import Derived.Test.YtfbnkebgdmfcfaaKWeightsFor10
import Derived.Test.YtfbnkebgdmfcfaaKWeightsFor6
import Derived.Test.YtfbnkebgdmfcfaaKWeightsFor7
import Derived.Test.YtfbnkebgdmfcfaaKWeightsFor8
import Derived.Test.YtfbnkebgdmfcfaaKWeightsFor9
import Derived.Test.YtfbnkebgdmfcfaaWSized
import Derived.Test.YtfbnkebgdmfcfaaKXDetI
namespace Go.Proofs.Ytfbnkebgdmfcfaa.Pr
open Go.RowKit Go.Proofs.YtfbnkebgdmfcfaaW.PrintWords Go.Proofs.YtfbnkebgdmfcfaaW.PrintLast Go.Proofs.YtfbnkebgdmfcfaaW.PrintMore
attribute [local go_sem] max2_int min2_int max_two min_two max_three min_three max_four min_four   -- for this text's walks alone
set_option linter.unusedVariables false
set_option linter.unusedSimpArgs false
/-! ### impl_Moments_hankel: function 139 -/
def impl_Moments_hankel.l0 : Nat → Int → List (List Int) → Int → Int → Int → List Int → Option (Int)
 | 0, _, _, _, _, _, _ => none
 | k + 1, x1, x5, x7, x8, x290000, x290001 => if x8 < x7 then (if 0 ≤ x8 then (if x8 ≤ (wrap64 (x8 + x1)) then (if (wrap64 (x8 + x1)) ≤ (x290001.length : Int) then (if x5.length < 5864062014805 then (impl_Moments_hankel.l0 k x1 (x5 ++ [((x290001.take ((wrap64 (x8 + x1)) : Int).toNat).drop (x8 : Int).toNat)]) x7 (wrap64 (x8 + 1)) x290000 x290001) else (none)) else (none)) else (none)) else (none)) else ((impl_Moments_field.f x290000 x290001).bind fun t298 => ((impl_field_determinant.f k t298 x5).bind fun t299 => (some t299)))
def impl_Moments_hankel.f (k : Nat) (a0_0 : Int) (l0_1 : List Int) (a1 : Int) : Option (Int) := impl_Moments_hankel.l0 k a1 ([] : List (List Int)) a1 0 a0_0 l0_1
set_option maxHeartbeats 8000000 in
set_option maxRecDepth 100000 in
theorem impl_Moments_hankel.calls (k : Nat) (a0_0 : Int) (P0_1_ : Nat → Prop) (A0_1 : Option Addr) (c0_1 : Nat) (l0_1 : List Int) (a1 : Int) (r : Int) (w : World) (hs0_1 : Kd.V (Kd.int .i64) 2 w w.heap.size (fun k_ => P0_1_ k_) (.slice A0_1 l0_1.length c0_1) l0_1) (h : impl_Moments_hankel.f k a0_0 l0_1 a1 = some r) :
  Calls Try.prog 139 #[.agg #[.int .i64 a0_0, .slice A0_1 l0_1.length c0_1], .int .i64 a1] w fun e w' => e = .returned (.int .i64 r) ∧ Below w.heap.size w w' := by
 have hu40 := Try.underlying40
 have HO0_1 := zA (show Kd.V (Kd.int .i64) 2 w w.heap.size (fun k_ => (P0_1_ k_ ∨ w.heap.size ≤ k_)) (.slice A0_1 l0_1.length c0_1) l0_1 from Kd.V_mono hs0_1 (fun k_ hk => .inl hk))
 have HB := zA (Below.refl w.heap.size w)
 have H : (impl_Moments_hankel.l0 k a1 ([] : List (List Int)) a1 0 a0_0 l0_1) = some r := h
 clear h
 have H' := zA H
 clear H
 go_enter Try.func139, Try.ntmps139
 go_wp2_with (first | ((with_reducible refine gate_dst (N := 2) rfl ?_); refine bx 2 #[.int .i64 a0_0, .slice A0_1 l0_1.length c0_1] 40 ?_; intro gb289 hg w3 hbox hb; replace HO0_1 := zA (Kd.V_below (Kd.V_elderB (by (with_reducible repeat (first | apply Kd.V_alloc | apply Kd.V_drewN | apply Kd.V_drew)); exact HO0_1.out) gb289 (Nat.le_of_eq hg.symm)) hb); have BK289 := zA (hbox); have GW289 := gq HB hg; have GE289 := gq HB hg; replace HB := xH HB hb; have := geI GE289; clear hb hbox hg))
 go_loopg [5, 8] k (fun kq v5 v8 w' => ∃ (x5_1 : List (List Int)) (x8_1 : Int), v8 = .int .i64 x8_1 ∧ Aside0 (impl_Moments_hankel.l0 kq a1 x5_1 a1 x8_1 a0_0 l0_1 = some r) ∧ Aside0 (kq ≤ k) ∧ Aside0 (Kd.N (Kd.slice 2 (Kd.int .i64)) 22 w' w.heap.size (fun k_ => (P0_1_ k_ ∨ w.heap.size ≤ k_) ∧ k_ ≠ gb289) v5 x5_1) ∧ Aside0 (Kd.V (Kd.int .i64) 2 w' w.heap.size (fun k_ => (P0_1_ k_ ∨ w.heap.size ≤ k_) ∧ some k_ ≠ (v5 : Value).ownBlock ∧ k_ ≠ gb289) (.slice A0_1 l0_1.length c0_1) l0_1) ∧ Aside0 (w'.heap[gb289]? = some (.cells #[.int .i64 a0_0, (.slice A0_1 l0_1.length c0_1)] 40 (0, 0))) ∧ Aside0 (Below w.heap.size w w'))
 case atStart => exact ⟨(([] : List (List Int))), (0), (by first | rfl | (simp; done) | (simp [*]; done)), H', ⟨Nat.le_refl _⟩, ⟨by first | exact Kd.S_nil _ _ _ _ _ | exact Kd.N_nil _ _ _ _ _ | exact Kd.V_nil _ _ _ _ _ | exact Kd.Q_nil _ _ _ _ _ | exact Kd.R_nil _ _ _ _ _⟩, ⟨by (with_reducible repeat (first | apply Kd.V_alloc | apply Kd.V_drewN | apply Kd.V_drew)); exact Kd.V_mono HO0_1.out (fun _ hk => ⟨hk.1, ⟨(by simp [Value.ownBlock]), hk.2⟩⟩)⟩, ⟨uB BK289.out⟩, ⟨uH HB.out⟩⟩
 case round =>
  clear H'
  (try clear c1);(try clear p2)
  obtain ⟨x5_1, x8_1, rfl, HA, HK1, HO_5, HO_290001, BK289, HB⟩ := hrel
  cases gk with
  | zero => exact absurd HA.out (by simp [impl_Moments_hankel.l0])
  | succ k1 =>
   have H := HA.out
   clear HA
   simp only [impl_Moments_hankel.l0] at H
   by_cases c4 : x8_1 < a1
   rotate_left
   ·rw [if_neg c4] at H
    have c4b0 : decide (x8_1 < a1) = false := decide_eq_false c4
    clear c4
    replace H := Option.bind_eq_some_iff.mp H
    obtain ⟨t298, A120, H⟩ := H
    replace H : ((impl_field_determinant.f k1 t298 x5_1).bind fun t299 => (some t299)) = some r := H
    have A12 := zA A120
    clear A120
    replace H := Option.bind_eq_some_iff.mp H
    obtain ⟨t299, A130, H⟩ := H
    replace H : (some t299) = some r := H
    have A13 := zA A130
    clear A130
    obtain rfl := Option.some.inj H
    have hcz14_0 := bc BK289 0
    have hcz14_1 := bc BK289 1
    have hfz14_0 := bf BK289 0
    have hfz14_1 := bf BK289 1
    go_wp2_with (first | ((with_reducible refine gate_callee (f := 75) rfl ?_); refine gL (some 23) Try.func75 #[.agg #[.int .i64 a0_0, .slice A0_1 l0_1.length c0_1]] ?_; (with_reducible refine (impl_Moments_field.calls a0_0 _ _ l0_1 t298 _ ?side1 ?side2 A12.out).mono ?_); (case side1 => exact uC ((Kd.V_reads' HO_290001.out).2.2)); (case side2 => exact (Kd.V_reads' HO_290001.out).2.1); rintro e w15 ⟨rfl, hb⟩; refine ⟨_, rfl, ?_⟩; replace HO_5 := zA (Kd.N_below (by (with_reducible repeat (first | apply Kd.N_alloc | apply Kd.N_drewN | apply Kd.N_drew)); exact HO_5.out) hb); replace HO_290001 := zA (Kd.V_below (by (with_reducible repeat (first | apply Kd.V_alloc | apply Kd.V_drewN | apply Kd.V_drew)); exact HO_290001.out) hb); replace BK289 := xB BK289 hb; replace HB := xH HB hb; (try clear hb); (try clear hb2); (try clear hk); (try clear hi); obtain ⟨Ao16, co16, eo16⟩ := Kd.N_slice HO_5.out; subst eo16) | ((with_reducible refine gate_callee (f := 152) rfl ?_); refine gL (some 25) Try.func152 #[.int .i64 t298, .slice Ao16 x5_1.length co16] ?_; (with_reducible refine (impl_field_determinant.calls k1 t298 _ _ x5_1 t299 _ ?side1 ?side2 A13.out).mono ?_); (case side1 => exact uC ((Kd.N_reads' HO_5.out).2.2)); (case side2 => exact (Kd.N_reads' HO_5.out).2.1); rintro e w17 ⟨rfl, hb⟩; refine ⟨_, rfl, ?_⟩; replace HO_5 := zA (Kd.N_below (by (with_reducible repeat (first | apply Kd.N_alloc | apply Kd.N_drewN | apply Kd.N_drew)); exact HO_5.out) hb); replace HO_290001 := zA (Kd.V_below (by (with_reducible repeat (first | apply Kd.V_alloc | apply Kd.V_drewN | apply Kd.V_drew)); exact HO_290001.out) hb); replace BK289 := xB BK289 hb; replace HB := xH HB hb; (try clear hb); (try clear hb2); (try clear hk); (try clear hi)))
    go_ret
    exact ⟨by first | rfl | (simp [errW_none, errW_some] <;> rfl) | (simp [*, errW_none, errW_some] <;> rfl), uH HB.out⟩

   rw [if_pos c4] at H
   have c4b0 : decide (x8_1 < a1) = true := decide_eq_true c4
   clear c4
   by_cases c5 : 0 ≤ x8_1
   rotate_left
   ·rw [if_neg c5] at H
    exact absurd H (by simp)
   rw [if_pos c5] at H
   have c5b0 := eq_true c5
   have c5b1 : decide (0 ≤ x8_1) = true := decide_eq_true c5
   clear c5
   by_cases c6 : x8_1 ≤ (wrap64 (x8_1 + a1))
   rotate_left
   ·rw [if_neg c6] at H
    exact absurd H (by simp)
   rw [if_pos c6] at H
   have c6b0 := eq_true c6
   have c6b1 : decide (x8_1 ≤ (wrap64 (x8_1 + a1))) = true := decide_eq_true c6
   by_cases c7 : (wrap64 (x8_1 + a1)) ≤ (l0_1.length : Int)
   rotate_left
   ·rw [if_neg c7] at H
    exact absurd H (by simp)
   rw [if_pos c7] at H
   have c7b0 := eq_true c7
   have c7b1 : decide ((wrap64 (x8_1 + a1)) ≤ (l0_1.length : Int)) = true := decide_eq_true c7
   obtain ⟨y290, hy290⟩ : ∃ y_ : List Int, y_ = ((l0_1.take ((wrap64 (x8_1 + a1)) : Int).toNat).drop (x8_1 : Int).toNat) := ⟨_, rfl⟩
   replace H : (if x5_1.length < 5864062014805 then (impl_Moments_hankel.l0 k1 a1 (x5_1 ++ [y290]) a1 (wrap64 (x8_1 + 1)) a0_0 l0_1) else (none)) = some r := by first | (rw [hy290]; exact H) | exact H
   have Ny290 := zA hy290
   clear hy290
   by_cases c8 : x5_1.length < 5864062014805
   rotate_left
   ·rw [if_neg c8] at H
    exact absurd H (by simp)
   rw [if_pos c8] at H
   have LMc8 := zA c8
   clear c8
   obtain ⟨y295, hy295⟩ : ∃ y_ : List (List Int), y_ = (x5_1 ++ [y290]) := ⟨_, rfl⟩
   replace H : (impl_Moments_hankel.l0 k1 a1 y295 a1 (wrap64 (x8_1 + 1)) a0_0 l0_1) = some r := by first | (rw [hy295]; exact H) | exact H
   have Ny295 := zA hy295
   clear hy295
   have H' := zA H
   clear H
   have hcz9_0 := bc BK289 0
   have hcz9_1 := bc BK289 1
   have hfz9_0 := bf BK289 0
   have hfz9_1 := bf BK289 1
   have q10 : ((wrap64 (x8_1 + a1)) : Int) ≤ ((l0_1.length : Int) : Int) := of_decide_eq_true (by first | (with_reducible assumption) | assumption)
   obtain ⟨i010, hi010, _, hsz10, _⟩ := info_parts info2
   have hroom10 : l0_1.length ≤ c0_1 := (Kd.V_reads' HO_290001.out).2.1
   have hC10 : Kd.F (Kd.int .i64) _ _ A0_1 l0_1.length l0_1 := (Kd.V_at (base := w.heap.size) HO_290001.out).2.2
   have ql10 : (x8_1 : Int) ≤ ((wrap64 (x8_1 + a1)) : Int) := of_decide_eq_true (by first | (with_reducible assumption) | assumption)
   have q010 : (0 : Int) ≤ (x8_1 : Int) := of_decide_eq_true (by first | (with_reducible assumption) | assumption)
   have hcut10 := cut_mid (P := Try.prog) 22 2 .i64 .i64 Try.underlying22 hi010 1 hsz10 A0_1 l0_1.length c0_1 x8_1 (wrap64 (x8_1 + a1)) q010 ql10 q10 hroom10
   have hr10 := Kd.F_mid (lo := (x8_1 : Int).toNat) (hi := ((wrap64 (x8_1 + a1)) : Int).toNat) (c := c0_1) hC10 (by omega) (by omega) hroom10
   obtain ⟨A10, hA10⟩ : ∃ A1, A1 = (if c0_1 = (x8_1 : Int).toNat then A0_1 else (A0_1 : Option Addr).map (·.add ((x8_1 : Int).toNat * 1))) := ⟨_, rfl⟩
   obtain ⟨c10, hc10⟩ : ∃ c1, c1 = c0_1 - (x8_1 : Int).toNat := ⟨_, rfl⟩
   have hy10 : y290.length = ((wrap64 (x8_1 + a1)) : Int).toNat - (x8_1 : Int).toNat := (by rw [Ny290.out, List.length_drop, List.length_take] <;> omega)
   rw [show ((l0_1).take ((wrap64 (x8_1 + a1)) : Int).toNat).drop (x8_1 : Int).toNat = y290 from Ny290.out.symm] at hr10
   replace hr10 : Kd.F (Kd.int .i64) _ _ A10 y290.length y290 := (by rw [hA10]; exact hr10)
   rw [← hy10, ← hA10, ← hc10] at hcut10
   have HO294 := zA (show Kd.V (Kd.int .i64) 2 _ w.heap.size _ (.slice A10 y290.length c10) y290 from Kd.V_mk (by rw [hy10, hc10]; exact Nat.sub_le_sub_right (Nat.le_trans (by omega) hroom10) _) hr10)
   have HC294 := zA (show y290.length ≤ c10 from by rw [hy10, hc10]; exact Nat.sub_le_sub_right (Nat.le_trans (by omega) hroom10) _)
   clear hr10 hC10 hroom10 hi010 hsz10 hc10
   have KY10 := zA hy10
   have KA10 := zA hA10
   clear hy10 hA10
   replace q10 := eq_true q10
   go_wp2_with (first | ((with_reducible refine gate_builtin (b := .append) (xs := #[.tmp 11, .tmp 19]) rfl ?_); at_builtin; refine Kd.N_append (Kd.slice 2 (Kd.int .i64)) (w0 := w) w.heap.size rfl (.tmp 11) (.tmp 19) 87 22 (.slice none 0 0) 24 rfl Try.underlying87 info22 rfl (by decide) (by omega) u5 x5_1 y290 [.slice A10 y290.length c10] (fun k_ => (P0_1_ k_ ∨ w.heap.size ≤ k_) ∧ k_ ≠ gb289) (fun k_ => ((fun k_ => (P0_1_ k_ ∨ w.heap.size ≤ k_) ∧ k_ ≠ gb289)) k_ ∧ some k_ ≠ (u5 : Value).ownBlock) rfl rfl ?aP (fun _ hk => hk) ?aF ?aO ?aB ?aS ?aL ?_; (case aP => exact (Kd.FK_slice_mk (Kd.V_reads' (Kd.V_mono (ok' := (fun k_ => ((fun k_ => (P0_1_ k_ ∨ w.heap.size ≤ k_) ∧ k_ ≠ gb289)) k_ ∧ some k_ ≠ (u5 : Value).ownBlock)) (HO294.out) (fun k_ hk => ⟨⟨hk.1, hk.2.2⟩, hk.2.1⟩))).2.1 (Kd.V_F (Kd.V_mono (ok' := (fun k_ => ((fun k_ => (P0_1_ k_ ∨ w.heap.size ≤ k_) ∧ k_ ≠ gb289)) k_ ∧ some k_ ≠ (u5 : Value).ownBlock)) (HO294.out) (fun k_ hk => ⟨⟨hk.1, hk.2.2⟩, hk.2.1⟩))))); (case aB => exact (uH HB.out)); (case aF => exact (fun k_ hk => ⟨(.inr (Nat.le_trans (below_size (uH HB.out)) hk)), Kd.freshB (g := gb289) (o := .cells #[.int .i64 a0_0, .slice A0_1 l0_1.length c0_1] 40 (0, 0)) (uB BK289.out) k_ hk⟩)); (case aO => exact (by (with_reducible repeat (first | apply Kd.N_alloc | apply Kd.N_drewN | apply Kd.N_drew)); exact HO_5.out)); (case aS => exact (below_size (uH HB.out))); (case aL => have := LMc8.out; omega); intro v296 w11 ho hb hg hat; rw [← Ny295.out] at ho; replace HO_290001 := zA (Kd.V_afterv (ok := (fun k_ => (P0_1_ k_ ∨ w.heap.size ≤ k_) ∧ k_ ≠ gb289)) (by (with_reducible repeat (first | apply Kd.V_alloc | apply Kd.V_drewN | apply Kd.V_drew)); exact Kd.V_mono HO_290001.out (fun _ hk => ⟨⟨hk.1, hk.2.2⟩, hk.2.1⟩)) hg hat); replace BK289 := zA (blk_grown (g := gb289) (o := .cells #[.int .i64 a0_0, .slice A0_1 l0_1.length c0_1] 40 (0, 0)) (uB BK289.out) hg (Kd.N_ne HO_5.out BK289.out (by decide))); replace HO294 := zA (Kd.V_afterv (ok := (fun k_ => (P0_1_ k_ ∨ w.heap.size ≤ k_) ∧ k_ ≠ gb289)) (by (with_reducible repeat (first | apply Kd.V_alloc | apply Kd.V_drewN | apply Kd.V_drew)); exact Kd.V_mono HO294.out (fun _ hk => ⟨⟨hk.1, hk.2.2⟩, hk.2.1⟩)) hg hat); replace HB := zA (hb); have HO297 := zA (ho); clear HO_5 ho hb hg hat))
   go_roundg k1
   case measure => have := HK1.out; omega
   case rel => exact ⟨(y295), (wrap64 (x8_1 + 1)), (by first | rfl | (simp; done) | (simp [*]; done)), H', ⟨by have := HK1.out; omega⟩, ⟨by (with_reducible repeat (first | apply Kd.N_alloc | apply Kd.N_drewN | apply Kd.N_drew)); exact HO297.out⟩, ⟨by (with_reducible repeat (first | apply Kd.V_alloc | apply Kd.V_drewN | apply Kd.V_drew)); exact Kd.V_mono HO_290001.out (fun _ hk => ⟨hk.1.1, ⟨hk.2, hk.1.2⟩⟩)⟩, ⟨uB BK289.out⟩, ⟨uH HB.out⟩⟩
/-! ### impl_Moments_order: function 93 -/
def impl_Moments_order.l0 : Nat → Int → Int → List Int → Option (Int)
 | 0, _, _, _ => none
 | k + 1, x3, x301000, x301001 => (impl_Moments_isTold.f x301000 x301001 (wrap64 (x3 + 1))).bind fun t301 => (if t301 = true then ((impl_Moments_hankel.f k x301000 x301001 (wrap64 (x3 + 1))).bind fun t302 => (if t302 = 0 then (some x3) else (impl_Moments_order.l0 k (wrap64 (x3 + 1)) x301000 x301001))) else (some x3))
def impl_Moments_order.f (k : Nat) (a0_0 : Int) (l0_1 : List Int) : Option (Int) := impl_Moments_order.l0 k 0 a0_0 l0_1
set_option maxHeartbeats 8000000 in
set_option maxRecDepth 100000 in
theorem impl_Moments_order.calls (k : Nat) (a0_0 : Int) (A0_1 : Option Addr) (c0_1 : Nat) (l0_1 : List Int) (r : Int) (w : World) (hr0_1 : Kd.C (Kd.int .i64) w A0_1 l0_1.length l0_1) (hc0_1 : l0_1.length ≤ c0_1) (h : impl_Moments_order.f k a0_0 l0_1 = some r) :
  Calls Try.prog 93 #[.agg #[.int .i64 a0_0, .slice A0_1 l0_1.length c0_1]] w fun e w' => e = .returned (.int .i64 r) ∧ Below w.heap.size w w' := by
 have hu40 := Try.underlying40
 have HR0_1 := zA hr0_1
 have HC0_1 := zA hc0_1
 clear hr0_1 hc0_1
 have HB := zA (Below.refl w.heap.size w)
 have H : (impl_Moments_order.l0 k 0 a0_0 l0_1) = some r := h
 clear h
 have H' := zA H
 clear H
 go_enter Try.func93, Try.ntmps93
 go_wp2_with (first | ((with_reducible refine gate_dst (N := 1) rfl ?_); refine bx 1 #[.int .i64 a0_0, .slice A0_1 l0_1.length c0_1] 40 ?_; intro gb300 hg w2 hbox hb; have BK300 := zA (hbox); have GW300 := gq HB hg; have GE300 := gq HB hg; replace HB := xH HB hb; have := geI GE300; clear hb hbox hg))
 go_loopg [3] k (fun kq v3 w' => ∃ (x3_1 : Int), v3 = .int .i64 x3_1 ∧ Aside0 (impl_Moments_order.l0 kq x3_1 a0_0 l0_1 = some r) ∧ Aside0 (kq ≤ k) ∧ Aside0 (w'.heap[gb300]? = some (.cells #[.int .i64 a0_0, (.slice A0_1 l0_1.length c0_1)] 40 (0, 0))) ∧ Aside0 (Below w.heap.size w w'))
 case atStart => exact ⟨(0), (by first | rfl | (simp; done) | (simp [*]; done)), H', ⟨Nat.le_refl _⟩, ⟨uB BK300.out⟩, ⟨uH HB.out⟩⟩
 case round =>
  clear H'
  try clear p2
  obtain ⟨x3_1, rfl, HA, HK1, BK300, HB⟩ := hrel
  cases gk with
  | zero => exact absurd HA.out (by simp [impl_Moments_order.l0])
  | succ k1 =>
   have H := HA.out
   clear HA
   simp only [impl_Moments_order.l0] at H
   replace H := Option.bind_eq_some_iff.mp H
   obtain ⟨t301, A30, H⟩ := H
   replace H : (if t301 = true then ((impl_Moments_hankel.f k1 a0_0 l0_1 (wrap64 (x3_1 + 1))).bind fun t302 => (if t302 = 0 then (some x3_1) else (impl_Moments_order.l0 k1 (wrap64 (x3_1 + 1)) a0_0 l0_1))) else (some x3_1)) = some r := H
   have A3 := zA A30
   clear A30
   by_cases c4 : t301 = true
   ·subst c4
    have H1 : ((impl_Moments_hankel.f k1 a0_0 l0_1 (wrap64 (x3_1 + 1))).bind fun t302 => (if t302 = 0 then (some x3_1) else (impl_Moments_order.l0 k1 (wrap64 (x3_1 + 1)) a0_0 l0_1))) = some r := by rw [if_pos rfl] at H; exact H
    clear H
    have H := H1
    clear H1
    replace H := Option.bind_eq_some_iff.mp H
    obtain ⟨t302, A50, H⟩ := H
    replace H : (if t302 = 0 then (some x3_1) else (impl_Moments_order.l0 k1 (wrap64 (x3_1 + 1)) a0_0 l0_1)) = some r := H
    have A5 := zA A50
    clear A50
    by_cases c6 : t302 = 0
    rotate_left
    ·rw [if_neg c6] at H
     have c6b0 : (t302 == 0) = false := beq_eq_false_iff_ne.mpr c6
     have c6b1 : (t302 != 0) = true := bne_iff_ne.mpr c6
     have H' := zA H
     clear H
     have hcz11_0 := bc BK300 0
     have hcz11_1 := bc BK300 1
     have hfz11_0 := bf BK300 0
     have hfz11_1 := bf BK300 1
     go_wp2_with (first | ((with_reducible refine gate_callee (f := 138) rfl ?_); refine gL (some 7) Try.func138 #[.agg #[.int .i64 a0_0, .slice A0_1 l0_1.length c0_1], .int .i64 (wrap64 (x3_1 + 1))] ?_; (with_reducible refine (impl_Moments_isTold.calls a0_0 _ _ l0_1 (wrap64 (x3_1 + 1)) true _ ?side1 ?side2 A3.out).mono ?_); (case side1 => exact uC ((Kd.C_below HR0_1.out HB.out))); (case side2 => exact HC0_1.out); rintro e w12 ⟨rfl, hb⟩; refine ⟨_, rfl, ?_⟩; replace BK300 := xB BK300 hb; replace HB := xH HB hb; (try clear hb); (try clear hb2); (try clear hk); (try clear hi); have hcz13_0 := bc BK300 0; have hcz13_1 := bc BK300 1; have hfz13_0 := bf BK300 0; have hfz13_1 := bf BK300 1) | (go_at_call 139; (with_reducible refine (impl_Moments_hankel.calls k1 a0_0 (fun k_ => k_ < w.heap.size) _ _ l0_1 (wrap64 (x3_1 + 1)) t302 _ ?side1 A5.out).mono ?_); (case side1 => exact Kd.V_mk HC0_1.out (Kd.F_below (Kd.C_F (Kd.heap_int .i64) HR0_1.out) (uH HB.out))); rintro e w14 ⟨rfl, hb⟩; replace BK300 := xB BK300 hb; replace HB := xH HB hb; (try clear hb); (try clear hb2); (try clear hk); (try clear hi)))
     go_roundg k1
     case measure => have := HK1.out; omega
     case rel => exact ⟨(wrap64 (x3_1 + 1)), (by first | rfl | (simp; done) | (simp [*]; done)), H', ⟨by have := HK1.out; omega⟩, ⟨uB BK300.out⟩, ⟨uH HB.out⟩⟩
    rw [if_pos c6] at H
    have c6b0 : (t302 == 0) = true := beq_iff_eq.mpr c6
    have c6b1 : (t302 != 0) = false := bne_eq_false_iff_eq.mpr c6
    clear c6
    obtain rfl := Option.some.inj H
    have hcz7_0 := bc BK300 0
    have hcz7_1 := bc BK300 1
    have hfz7_0 := bf BK300 0
    have hfz7_1 := bf BK300 1
    go_wp2_with (first | ((with_reducible refine gate_callee (f := 138) rfl ?_); refine gL (some 7) Try.func138 #[.agg #[.int .i64 a0_0, .slice A0_1 l0_1.length c0_1], .int .i64 (wrap64 (x3_1 + 1))] ?_; (with_reducible refine (impl_Moments_isTold.calls a0_0 _ _ l0_1 (wrap64 (x3_1 + 1)) true _ ?side1 ?side2 A3.out).mono ?_); (case side1 => exact uC ((Kd.C_below HR0_1.out HB.out))); (case side2 => exact HC0_1.out); rintro e w8 ⟨rfl, hb⟩; refine ⟨_, rfl, ?_⟩; replace BK300 := xB BK300 hb; replace HB := xH HB hb; (try clear hb); (try clear hb2); (try clear hk); (try clear hi); have hcz9_0 := bc BK300 0; have hcz9_1 := bc BK300 1; have hfz9_0 := bf BK300 0; have hfz9_1 := bf BK300 1) | (go_at_call 139; (with_reducible refine (impl_Moments_hankel.calls k1 a0_0 (fun k_ => k_ < w.heap.size) _ _ l0_1 (wrap64 (x3_1 + 1)) t302 _ ?side1 A5.out).mono ?_); (case side1 => exact Kd.V_mk HC0_1.out (Kd.F_below (Kd.C_F (Kd.heap_int .i64) HR0_1.out) (uH HB.out))); rintro e w10 ⟨rfl, hb⟩; replace BK300 := xB BK300 hb; replace HB := xH HB hb; (try clear hb); (try clear hb2); (try clear hk); (try clear hi)))
    go_ret
    exact ⟨by first | rfl | (simp [errW_none, errW_some] <;> rfl) | (simp [*, errW_none, errW_some] <;> rfl), uH HB.out⟩
   ·replace c4 := Bool.eq_false_iff.mpr c4
    subst c4
    have H1 : (some x3_1) = some r := by rw [if_neg (show ¬ (false = true) by decide)] at H; exact H
    clear H
    have H := H1
    clear H1
    obtain rfl := Option.some.inj H
    have hcz15_0 := bc BK300 0
    have hcz15_1 := bc BK300 1
    have hfz15_0 := bf BK300 0
    have hfz15_1 := bf BK300 1
    go_wp2_with (first | ((with_reducible refine gate_callee (f := 138) rfl ?_); refine gL (some 7) Try.func138 #[.agg #[.int .i64 a0_0, .slice A0_1 l0_1.length c0_1], .int .i64 (wrap64 (x3_1 + 1))] ?_; (with_reducible refine (impl_Moments_isTold.calls a0_0 _ _ l0_1 (wrap64 (x3_1 + 1)) false _ ?side1 ?side2 A3.out).mono ?_); (case side1 => exact uC ((Kd.C_below HR0_1.out HB.out))); (case side2 => exact HC0_1.out); rintro e w16 ⟨rfl, hb⟩; refine ⟨_, rfl, ?_⟩; replace BK300 := xB BK300 hb; replace HB := xH HB hb; (try clear hb); (try clear hb2); (try clear hk); (try clear hi)))
    go_ret
    exact ⟨by first | rfl | (simp [errW_none, errW_some] <;> rfl) | (simp [*, errW_none, errW_some] <;> rfl), uH HB.out⟩
/- Hankel determinants: both come to one plain function; no condition. -/
/-- The first i rows of the Hankel matrix of k rows. -/
def hrows (l : List Int) (k i : Nat) : List (List Int) := (List.range i).map fun j => (l.take (j + k)).drop j
def hankV (p : Int) (l : List Int) (k : Nat) : Int := detV p (hrows l k k)
theorem hrows_len (l : List Int) (k i : Nat) : (hrows l k i).length = i := by simp [hrows]
theorem hrows_succ (l : List Int) (k i : Nat) : hrows l k (i + 1) = hrows l k i ++ [(l.take (i + k)).drop i] := by unfold hrows; rw [List.range_succ, List.map_append, List.map_singleton]
theorem hrows_sqr {p : Int} (hp : Pm p) {l : List Int} (hl : Nm p l) {k : Nat} (hk : k ≤ 1000) (h : 2 * k ≤ l.length + 1) : sqrB p (hrows l k k) := by
  refine ⟨⟨hp.two, hp.top⟩, by rw [hrows_len]; exact hk, fun r hr => ?_⟩
  obtain ⟨j, hj, rfl⟩ := List.mem_map.1 hr
  have hj := List.mem_range.1 hj
  refine ⟨by rw [hrows_len, List.length_drop, List.length_take]; omega, (hl.take _).drop _⟩
theorem det_eq {p : Int} {rows : List (List Int)} (h : sqrB p rows) (n : Nat) : impl_field_determinant.f n p rows = some (detV p rows) := by unfold impl_field_determinant.f; rw [if_pos h]
theorem sdet_eq {p : Int} {rows : List (List Int)} (h : sqrB p rows) (n : Nat) : spec_l02Det.f n p rows = some (detV p rows) := by unfold spec_l02Det.f; rw [if_pos h]
section
variable {p : Int} (hp : Pm p) {l : List Int} (nl : Nm p l) (hl : l.length ≤ 24) {k : Nat} (hk : 2 * k ≤ l.length + 1)
include hp nl hl hk
theorem specHank_l0 (d : Nat) : ∀ i : Nat, i + d = k → Ev (fun n => spec_l02Hankel.l0 n (k : Int) (hrows l k i) (i : Int) p l) (hankV p l k) := by
  induction d with
  | zero =>
    intro i hi
    obtain rfl : i = k := by omega
    refine Ev.step (fun n => by rw [spec_l02Hankel.l0]) ?_
    exact Ev.neg (by omega) (Ev.bind ⟨0, fun n _ => sdet_eq (hrows_sqr hp nl (by omega) hk) n⟩ (Ev.now _))
  | succ d ih =>
    intro i hi
    refine Ev.step (fun n => by rw [spec_l02Hankel.l0]) ?_
    rw [wadd (i := i) (j := k) (n := 1000) (by omega) (by omega), wsucc (i := i) (n := k) (by omega) (by omega)]
    refine Ev.pos (by omega) (Ev.pos (by omega) (Ev.pos (by omega) (Ev.pos (by omega) ?_)))
    rw [toNat_nat, toNat_nat]
    refine Ev.bindE (own_eq _ (by rw [List.length_drop, List.length_take]; unfold Sm; omega)) (Ev.pos (by rw [hrows_len]; omega) ?_)
    rw [← hrows_succ]
    exact ih (i + 1) (by omega)
theorem implHank_l0 (d : Nat) : ∀ i : Nat, i + d = k → Ev (fun n => impl_Moments_hankel.l0 n (k : Int) (hrows l k i) (k : Int) (i : Int) p l) (hankV p l k) := by
  induction d with
  | zero =>
    intro i hi
    obtain rfl : i = k := by omega
    refine Ev.step (fun n => by rw [impl_Moments_hankel.l0]) ?_
    exact Ev.neg (by omega) (Ev.bindE (a := p) rfl (Ev.bind ⟨0, fun n _ => det_eq (hrows_sqr hp nl (by omega) hk) n⟩ (Ev.now _)))
  | succ d ih =>
    intro i hi
    refine Ev.step (fun n => by rw [impl_Moments_hankel.l0]) ?_
    rw [wadd (i := i) (j := k) (n := 1000) (by omega) (by omega), wsucc (i := i) (n := k) (by omega) (by omega)]
    refine Ev.pos (by omega) (Ev.pos (by omega) (Ev.pos (by omega) (Ev.pos (by omega) (Ev.pos (by rw [hrows_len]; omega) ?_))))
    rw [toNat_nat, toNat_nat, ← hrows_succ]
    exact ih (i + 1) (by omega)
theorem specHank_ev : Ev (fun n => spec_l02Hankel.f n p l (k : Int)) (hankV p l k) := specHank_l0 hp nl hl hk k 0 (by omega)
theorem implHank_ev : Ev (fun n => impl_Moments_hankel.f n p l (k : Int)) (hankV p l k) := implHank_l0 hp nl hl hk k 0 (by omega)
end
theorem half_eq {l : List Int} (hl : Sm l.length) : wrap64 (Int.tdiv (wrap64 ((l.length : Int) + 1)) 2) = (((l.length + 1) / 2 : Nat) : Int) := by
  unfold Sm at hl
  rw [wrap_id (x := (l.length : Int) + 1) (by omega) (by omega), Int.tdiv_eq_ediv_of_nonneg (by omega), wrap_id (by omega) (by omega)]
  omega
theorem isTold_eq (p : Int) {l : List Int} (hl : Sm l.length) (a : Int) : impl_Moments_isTold.f p l a = some (decide (0 ≤ a ∧ a ≤ (((l.length + 1) / 2 : Nat) : Int))) := by
  unfold impl_Moments_isTold.f impl_length_int64.f
  by_cases h : a ≥ 0
  · rw [if_pos h]
    simp only [Option.bind_some, half_eq hl]
    congr 2
    simp [h]
  · rw [if_neg h]
    congr 1
    simp [show ¬ 0 ≤ a from h]
/- The order: both come to one plain function; no condition. -/
/-- The first order from i on, d at most, behind which the Hankel determinant is 0. -/
def ordGo (p : Int) (l : List Int) : Nat → Nat → Int
  | 0, i => i
  | d + 1, i => if hankV p l (i + 1) = 0 then i else ordGo p l d (i + 1)
section
variable {p : Int} (hp : Pm p) {l : List Int} (nl : Nm p l) (hl : l.length ≤ 24)
include hp nl hl
theorem specOrd_l0 (d : Nat) : ∀ i : Nat, i + d = (l.length + 1) / 2 → Ev (fun n => spec_l02Order.l0 n (i : Int) p l) (ordGo p l d i) := by
  induction d with
  | zero =>
    intro i hi
    refine Ev.step (fun n => by rw [spec_l02Order.l0]) ?_
    rw [half_eq (by unfold Sm; omega)]
    exact Ev.neg (by omega) (Ev.now _)
  | succ d ih =>
    intro i hi
    refine Ev.step (fun n => by rw [spec_l02Order.l0]) ?_
    rw [half_eq (by unfold Sm; omega), wsucc (i := i) (n := 1000) (by omega) (by omega), ordGo]
    refine Ev.pos (by omega) (Ev.bind (specHank_ev hp nl hl (by omega)) ?_)
    by_cases h : hankV p l (i + 1) = 0
    · rw [if_pos h]; exact Ev.pos h (Ev.now _)
    · rw [if_neg h]; exact Ev.neg h (ih (i + 1) (by omega))
theorem implOrd_l0 (d : Nat) : ∀ i : Nat, i + d = (l.length + 1) / 2 → Ev (fun n => impl_Moments_order.l0 n (i : Int) p l) (ordGo p l d i) := by
  induction d with
  | zero =>
    intro i hi
    refine Ev.step (fun n => by rw [impl_Moments_order.l0]) ?_
    rw [wsucc (i := i) (n := 1000) (by omega) (by omega)]
    exact Ev.bindE (isTold_eq p (by unfold Sm; omega) _) (Ev.neg (by simp; omega) (Ev.now _))
  | succ d ih =>
    intro i hi
    refine Ev.step (fun n => by rw [impl_Moments_order.l0]) ?_
    rw [wsucc (i := i) (n := 1000) (by omega) (by omega), ordGo]
    refine Ev.bindE (isTold_eq p (by unfold Sm; omega) _) (Ev.pos (decide_eq_true (by omega)) (Ev.bind (implHank_ev hp nl hl (by omega)) ?_))
    by_cases h : hankV p l (i + 1) = 0
    · rw [if_pos h]; exact Ev.pos h (Ev.now _)
    · rw [if_neg h]; exact Ev.neg h (ih (i + 1) (by omega))
def ordV (p : Int) (l : List Int) : Int := ordGo p l ((l.length + 1) / 2) 0
theorem specOrd_ev : Ev (fun n => spec_l02Order.f n p l) (ordV p l) := specOrd_l0 hp nl hl _ 0 (by omega)
theorem implOrd_ev : Ev (fun n => impl_Moments_order.f n p l) (ordV p l) := implOrd_l0 hp nl hl _ 0 (by omega)
end
/- The orthogonal polynomials of moments: what the program (upTo) and the reference (l04Polys) come to; no condition. -/
/-- L(f f x^s). -/
def mNorm (p : Int) (l f : List Int) (s : Nat) : Int := applyM p l (pmul p f f) s
def mAlpha (p : Int) (l f : List Int) : Int := mNorm p l f 1 * invF p (mNorm p l f 0) % p
def mBeta (p : Int) (l b f : List Int) (i : Nat) : Int := if i = 0 then l.getD 0 0 else mNorm p l f 0 * invF p (mNorm p l b 0) % p
/-- P(k - 1) and P(k). -/
def mPair (p : Int) (l : List Int) : Nat → List Int × List Int
  | 0 => ([], [1])
  | i + 1 => ((mPair p l i).2, pnext p (mAlpha p l (mPair p l i).2) (mBeta p l (mPair p l i).1 (mPair p l i).2 i) (mPair p l i).2 (mPair p l i).1)
def mP (p : Int) (l : List Int) (i : Nat) : List Int := (mPair p l i).2
theorem mPair_ok {p : Int} (hp : Pm p) (l : List Int) (k : Nat) : (Nm p (mPair p l k).1 ∧ Nm p (mPair p l k).2) ∧ ((mPair p l k).1.length ≤ k + 1 ∧ (mPair p l k).2.length ≤ k + 1) := by
  induction k with
  | zero => exact ⟨⟨Nm.nil p, one_nm hp⟩, by simp [mPair], by simp [mPair]⟩
  | succ k ih =>
    refine ⟨⟨ih.1.2, pnext_nm hp _ _ _ _⟩, by have := ih.2.2; simp only [mPair]; omega, ?_⟩
    have := pnext_len p (mAlpha p l (mPair p l k).2) (mBeta p l (mPair p l k).1 (mPair p l k).2 k) (mPair p l k).2 (mPair p l k).1
    have h := ih.2
    simp only [mPair]
    omega
theorem mP_len {p : Int} (hp : Pm p) (l : List Int) (k : Nat) : (mP p l k).length ≤ k + 1 := (mPair_ok hp l k).2.2
theorem mP_nm {p : Int} (hp : Pm p) (l : List Int) (k : Nat) : Nm p (mP p l k) := (mPair_ok hp l k).1.2
theorem mPair_fst (p : Int) (l : List Int) (k : Nat) : (mPair p l (k + 1)).1 = mP p l k := rfl
/-- L(x f) by the product with x. -/
theorem applyM_x {p : Int} (hp : Pm p) (l f : List Int) (hf : Nm p f) : applyM p l (pmul p [0, 1] f) 0 = applyM p l f 1 := by
  unfold applyM
  have hg : ∀ j, (pmul p [0, 1] f).getD j 0 = sh f 1 j := fun j => by
    have hb : 0 ≤ sh f 1 j ∧ sh f 1 j < p := by
      unfold sh
      split
      · exact hf.getp hp.pos _
      · exact ⟨Int.le_refl _, hp.pos⟩
    rw [pmul_get hp.pos]
    show ((0 + 0 * sh f 0 j) + 1 * sh f 1 j) % p = _
    rw [Int.zero_mul, Int.one_mul, Int.zero_add, Int.zero_add, Int.emod_eq_of_lt hb.1 hb.2]
  have h1 : ∀ j, (pmul p [0, 1] f).length ≤ j → (pmul p [0, 1] f).getD j 0 * l.getD (j + 0) 0 = 0 := fun j hj => by rw [getD_far _ hj, Int.zero_mul]
  have h2 : ∀ j, f.length + 1 ≤ j → (pmul p [0, 1] f).getD j 0 * l.getD (j + 0) 0 = 0 := fun j hj => by rw [hg, sh_far (by omega), Int.zero_mul]
  have h3 : sumTo (fun j => (pmul p [0, 1] f).getD j 0 * l.getD (j + 0) 0) (pmul p [0, 1] f).length = sumTo (fun j => (pmul p [0, 1] f).getD j 0 * l.getD (j + 0) 0) (f.length + 1) := by
    rw [← sumTo_more h1 (f.length + 1), ← sumTo_more h2 (pmul p [0, 1] f).length, Nat.add_comm]
  rw [h3, sumTo_front]
  have h4 : (pmul p [0, 1] f).getD 0 0 * l.getD (0 + 0) 0 = 0 := by rw [hg, sh, if_neg (by omega), Int.zero_mul]
  rw [h4, Int.zero_add]
  congr 1
  refine sumTo_congr _ fun t ht => ?_
  rw [hg, sh, if_pos (by omega)]
  rfl
theorem mNorm_in {p : Int} (hp : Pm p) (l f : List Int) (s : Nat) : 0 ≤ mNorm p l f s ∧ mNorm p l f s < p := emodB hp.pos _
theorem mAlpha_in {p : Int} (hp : Pm p) (l f : List Int) : 0 ≤ mAlpha p l f ∧ mAlpha p l f < p := emodB hp.pos _
theorem mBeta_in {p : Int} (hp : Pm p) {l : List Int} (hl : Nm p l) (b f : List Int) (i : Nat) : 0 ≤ mBeta p l b f i ∧ mBeta p l b f i < p := by
  unfold mBeta
  split
  · exact hl.getp hp.pos 0
  · exact emodB hp.pos _
theorem neg_emod_emod (x p : Int) : (-(x % p)) % p = (-x) % p := by
  have h := sub_mod_right 0 x p
  rwa [Int.zero_sub, Int.zero_sub] at h
/-- The empty list added. -/
theorem padd_nil {p : Int} (f : List Int) (k : Int) (hf : trim f = f) : padd p f [] k = f := by
  unfold padd
  rw [List.length_nil, addGo, Nat.max_zero, addOf, Nat.sub_self, List.replicate_zero, List.append_nil, hf]
/- WeightsFor: for all arguments the program and the reference come to one value; no condition. -/
theorem addGo_get (p c : Int) (g : List Int) (d : Nat) : ∀ (i : Nat) (o : List Int), i + d ≤ o.length → ∀ j, (addGo p c g d i o).getD j 0 = if i ≤ j ∧ j < i + d then (o.getD j 0 + c * g.getD j 0) % p else o.getD j 0 := by
  induction d with
  | zero =>
    intro i o h j
    rw [addGo, if_neg (by omega)]
  | succ d ih =>
    intro i o h j
    rw [addGo, ih (i + 1) _ (by rw [List.length_set]; omega) j, set_get _ _ _ _ (by omega)]
    by_cases h1 : j = i
    · subst h1
      rw [if_neg (by omega), if_pos rfl, if_pos (by omega)]
    · rw [if_neg h1]
      by_cases h2 : i + 1 ≤ j ∧ j < i + 1 + d
      · rw [if_pos h2, if_pos (by omega)]
      · rw [if_neg h2, if_neg (by omega)]
/-- c times f. -/
theorem ptimes_get (p c : Int) (f : List Int) (j : Nat) : (padd p [] f c).getD j 0 = c * f.getD j 0 % p := by
  have hm : max ([] : List Int).length f.length = f.length := by simp
  have hz : ∀ j, (addOf [] f.length).getD j 0 = 0 := fun j => by
    unfold addOf
    rw [List.nil_append, List.getD_eq_getElem?_getD, List.getElem?_replicate]
    split <;> rfl
  unfold padd
  rw [hm, trim_get, addGo_get p c f f.length 0 _ (by rw [addOf_len _ (by simp)]; omega), hz, Int.zero_add]
  by_cases h : j < f.length
  · rw [if_pos (by omega)]
  · rw [if_neg (by omega), getD_far f (by omega), Int.mul_zero, Int.zero_emod]
theorem sumTo_scale (p c : Int) (f g : Nat → Int) (n : Nat) : sumTo (fun j => c * f j % p * g j) n % p = c * sumTo (fun j => f j * g j) n % p := by
  induction n with
  | zero => simp [sumTo]
  | succ n ih =>
    have e : (c * f n % p * g n) % p = (c * (f n * g n)) % p := by rw [mul_mod_one, Int.mul_assoc]
    rw [sumTo, sumTo, Int.mul_add, Int.add_emod, ih, e, ← Int.add_emod]
theorem apply_times {p : Int} (l f : List Int) (c : Int) : applyM p l (padd p [] f c) 0 = applyM p l f 0 * c % p := by
  unfold applyM
  have h1 : ∀ j, (padd p [] f c).length ≤ j → (padd p [] f c).getD j 0 * l.getD (j + 0) 0 = 0 := fun j hj => by rw [getD_far _ hj, Int.zero_mul]
  have hl : (padd p [] f c).length ≤ f.length := by
    have := padd_len p [] f c
    simp only [List.length_nil] at this
    omega
  rw [← sumTo_more h1 (f.length - (padd p [] f c).length), show (padd p [] f c).length + (f.length - (padd p [] f c).length) = f.length by omega,
    sumTo_congr (h := fun j => c * f.getD j 0 % p * l.getD (j + 0) 0) f.length (fun t ht => by rw [ptimes_get]), sumTo_scale p c (fun j => f.getD j 0) (fun j => l.getD (j + 0) 0), mul_mod_one, Int.mul_comm]
def nodeP (p : Int) (n : List Int) : List Int := nodeGo p n n.length 0 [1]
theorem nodeGo_nm {p : Int} (hp : Pm p) (n : List Int) (d : Nat) : ∀ i o, Nm p o → Nm p (nodeGo p n d i o) := by
  induction d with
  | zero => intro i o h; exact h
  | succ d ih => intro i o h; exact ih _ _ (pmul_nm hp.pos _ _)
theorem nodeP_nm {p : Int} (hp : Pm p) (n : List Int) : Nm p (nodeP p n) := by
  have := hp.two
  exact nodeGo_nm hp n _ _ _ (Nm.cons (by omega) (by omega) (Nm.nil p))
theorem nodeP_len (p : Int) (n : List Int) : (nodeP p n).length ≤ n.length + 1 := by
  have := nodeGo_len p n n.length 0 [1]
  simp only [List.length_cons, List.length_nil] at this
  unfold nodeP
  omega
def weiP (p : Int) (n : List Int) (i : Nat) : List Int := nodeP p (n.eraseIdx i)
def weiC (p : Int) (n : List Int) (i : Nat) : Int := invF p (valF p (n.getD i 0) (weiP p n i))
def weiV (p : Int) (l n : List Int) (i : Nat) : Int := applyM p l (weiP p n i) 0 * weiC p n i % p
def weiL (p : Int) (l n : List Int) (i : Nat) : List Int := (List.range i).map (weiV p l n)
theorem weiL_len (p : Int) (l n : List Int) (i : Nat) : (weiL p l n i).length = i := by simp [weiL]
theorem weiL_succ (p : Int) (l n : List Int) (i : Nat) : weiL p l n (i + 1) = weiL p l n i ++ [weiV p l n i] := by unfold weiL; rw [List.range_succ, List.map_append, List.map_singleton]
theorem specApply07_l0 {p : Int} (hp : Pm p) (l f : List Int) (nl : Nm p l) (hf : Nm p f) (h : f.length ≤ l.length) (hs : f.length ≤ 1000) (d : Nat) : ∀ i, i + d = f.length →
    Ev (fun k => spec_l07Apply.l0 k f (sumTo (fun j => f.getD j 0 * l.getD (j + 0) 0) i % p) (i : Int) p l) (applyM p l f 0) := by
  induction d with
  | zero =>
    intro i hi
    refine Ev.step (fun k => by rw [spec_l07Apply.l0]) ?_
    refine Ev.neg (by omega) (Ev.some' ?_)
    unfold applyM
    rw [show i = f.length by omega]
  | succ d ih =>
    intro i hi
    have h1 := hf.get (i := i) (by omega)
    have h2 := nl.get (i := i) (by omega)
    have h3 := mulP hp h1.1 h1.2 h2.1 h2.2
    have h4 := emodB hp.pos (sumTo (fun j => f.getD j 0 * l.getD (j + 0) 0) i)
    have ht := hp.top
    refine Ev.step (fun k => by rw [spec_l07Apply.l0]) ?_
    refine Ev.pos (by omega) (Ev.pos (by omega) (Ev.pos (by omega) (Ev.neg hp.ne ?_)))
    rw [rd_nat, rd_nat, wrap_id (x := f.getD i 0 * l.getD i 0) (by omega) (by omega), wrap_id (by omega) (by omega), tmod_pos (by omega), wsucc (i := i) (n := 1000) (by omega) (by omega), add_emod_mid]
    exact ih (i + 1) (by omega)
theorem specApply07_ev {p : Int} (hp : Pm p) (l f : List Int) (nl : Nm p l) (hf : Nm p f) (h : f.length ≤ l.length) (hs : f.length ≤ 1000) : Ev (fun k => spec_l07Apply.f k p l f) (applyM p l f 0) := by
  unfold spec_l07Apply.f
  have := specApply07_l0 hp l f nl hf h hs f.length 0 (by omega)
  rw [show sumTo (fun j => f.getD j 0 * l.getD (j + 0) 0) 0 % p = 0 from Int.zero_emod _] at this
  exact this
theorem erase_nm {p : Int} {n : List Int} (nn : Nm p n) (i : Nat) : Nm p (n.eraseIdx i) := fun x hx => nn x (List.mem_of_mem_eraseIdx hx)
theorem erase_len {n : List Int} {i : Nat} (hi : i < n.length) : (n.eraseIdx i).length = n.length - 1 := by rw [List.length_eraseIdx]; simp [hi]
section
variable {p : Int} (hp : Pm p) {l n : List Int} (nl : Nm p l) (nn : Nm p n) (hl : l.length ≤ 24) (hn : n.length ≤ l.length)
include hp nl nn hl hn
omit nl in
theorem implBasis_ev {i : Nat} (hi : i < n.length) : Ev (fun k => impl_field_basis.f k p n (i : Int)) (padd p [] (weiP p n i) (weiC p n i)) := by
  have hel := erase_len hi
  have hen := erase_nm nn i
  have hnl := nodeP_len p (n.eraseIdx i)
  have hnm := nodeP_nm hp (n.eraseIdx i)
  have hni := nn.get (i := i) hi
  have hv := valF_in hp (n.getD i 0) (weiP p n i)
  have h1 : slices_Clone_ints.f n = some n := by unfold slices_Clone_ints.f; rw [if_pos (by omega)]
  have h2 : slices_Delete_ints.f n (i : Int) (wrap64 ((i : Int) + 1)) = some (n.eraseIdx i) := by
    rw [wrap_id (by omega) (by omega)]
    unfold slices_Delete_ints.f
    rw [if_pos ⟨⟨by omega, rfl⟩, by omega, by omega⟩, toNat_nat]
  unfold impl_field_basis.f
  refine Ev.bindE h1 (Ev.bindE h2 (Ev.bind (a := nodeP p (n.eraseIdx i)) ?_ ?_))
  · unfold impl_field_ofRoots.f nodeP
    have h2p := hp.two
    exact implNode_l0 hp _ hen (by omega) (n.eraseIdx i).length 0 [1] (by omega) (by simp) (Nm.cons (by omega) (by omega) (Nm.nil p))
  · rw [rd_nat]
    refine Ev.pos (by omega) (Ev.pos (by omega) (Ev.bindE (implValue_eq hp hni _ hnm (by unfold Sm; omega)) (Ev.bind (implInv_ev hp hv) (Ev.bind ?_ (Ev.now _)))))
    unfold impl_field_times.f
    exact Ev.bind (implAdd_ev hp (invF_in hp _) [] _ (Nm.nil p) hnm (by simp [Sm]) (by unfold Sm; omega)) (Ev.now _)
theorem implWei_l0 (d : Nat) : ∀ i, i + d = n.length → Ev (fun k => impl_WeightsFor.l0 k (n.length : Int) (i : Int) p l n p n (weiL p l n i)) (p, n, weiL p l n n.length, 0) := by
  induction d with
  | zero =>
    intro i hi
    refine Ev.step (fun k => by rw [impl_WeightsFor.l0]) ?_
    refine Ev.neg (by omega) (Ev.some' ?_)
    rw [show i = n.length by omega]
  | succ d ih =>
    intro i hi
    have hnl := nodeP_len p (n.eraseIdx i)
    have hel := erase_len (show i < n.length by omega)
    have hpl := padd_len p [] (weiP p n i) (weiC p n i)
    simp only [List.length_nil] at hpl
    have hwl : (weiP p n i).length ≤ n.length := by unfold weiP; omega
    refine Ev.step (fun k => by rw [impl_WeightsFor.l0]) ?_
    rw [weiL_len, wsucc (i := i) (n := 1000) (by omega) (by omega)]
    refine Ev.pos (by omega) (Ev.bindE (a := p) rfl (Ev.bind (implBasis_ev hp nn hl hn (by omega)) (Ev.bind (implApply_ev hp l _ nl (padd_nm hp.pos (Nm.nil p) _) (by omega) (by unfold Sm; omega)) (Ev.pos (by omega) ?_))))
    have := ih (i + 1) (by omega)
    rw [weiL_succ] at this
    rw [apply_times]
    exact this
theorem specWei_l0 (d : Nat) : ∀ i, i + d = n.length → Ev (fun k => spec_WeightsFor.l0 k n (i : Int) p l p n (weiL p l n i ++ List.replicate (n.length - i) 0)) (p, n, weiL p l n n.length, 0) := by
  induction d with
  | zero =>
    intro i hi
    refine Ev.step (fun k => by rw [spec_WeightsFor.l0]) ?_
    refine Ev.neg (by omega) (Ev.some' ?_)
    rw [show i = n.length by omega, Nat.sub_self, List.replicate_zero, List.append_nil]
  | succ d ih =>
    intro i hi
    have hel := erase_len (show i < n.length by omega)
    have hen := erase_nm nn i
    have hnl := nodeP_len p (n.eraseIdx i)
    have hnm := nodeP_nm hp (n.eraseIdx i)
    have hni := nn.get (i := i) (by omega)
    have hv := valF_in hp (n.getD i 0) (weiP p n i)
    have ha := emodB hp.pos (sumTo (fun j => (weiP p n i).getD j 0 * l.getD (j + 0) 0) (weiP p n i).length)
    have hi2 := invF_in hp (valF p (n.getD i 0) (weiP p n i))
    have hm := mulP hp ha.1 ha.2 hi2.1 hi2.2
    have he : n.take i ++ n.drop (i + 1) = n.eraseIdx i := (List.eraseIdx_eq_take_drop_succ n i).symm
    have hlen : (weiL p l n i ++ List.replicate (n.length - i) (0 : Int)).length = n.length := by rw [List.length_append, weiL_len, List.length_replicate]; omega
    have h2p := hp.two
    have hnode : Ev (fun k => spec_l07Nodes.f k p (n.eraseIdx i)) (weiP p n i) := by
      unfold spec_l07Nodes.f weiP nodeP
      exact specNode_l0 hp _ hen (by omega) (n.eraseIdx i).length 0 [1] (by omega) (by simp) (Nm.cons (by omega) (by omega) (Nm.nil p))
    have et : Int.tmod (wrap64 (applyM p l (weiP p n i) 0 * invF p (valF p (n.getD i 0) (weiP p n i)))) p = weiV p l n i := by
      show Int.tmod (wrap64 ((sumTo (fun j => (weiP p n i).getD j 0 * l.getD (j + 0) 0) (weiP p n i).length % p) * invF p (valF p (n.getD i 0) (weiP p n i)))) p = _
      rw [wrap_id (by omega) (by omega), tmod_pos hm.1]; rfl
    clear hm ha
    refine Ev.step (fun k => by rw [spec_WeightsFor.l0]) ?_
    rw [hlen, wsucc (i := i) (n := 1000) (by omega) (by omega), toNat_nat, toNat_nat, rd_nat]
    refine Ev.pos (by omega) (Ev.pos (by omega) (Ev.pos (by omega) (Ev.bindE (own_eq _ (by unfold Sm; rw [List.length_take]; omega)) (Ev.pos (by omega) (Ev.pos (by omega) (Ev.pos (by rw [List.length_take, List.length_drop]; omega) ?_))))))
    rw [he]
    have hwl : (weiP p n i).length ≤ n.length := by unfold weiP; omega
    refine Ev.bind hnode (Ev.bind (specApply07_ev hp l _ nl hnm (by omega) (by omega)) (Ev.bind (specAt_ev hp hni _ hnm (by unfold Sm; omega)) (Ev.bind (specInv_ev hp hv) (Ev.neg hp.ne (Ev.pos (by omega) ?_)))))
    rw [et]
    have e2 : (weiL p l n i ++ List.replicate (n.length - i) (0 : Int)).set i (weiV p l n i) = weiL p l n (i + 1) ++ List.replicate (n.length - (i + 1)) 0 := by
      rw [List.set_append_right (h := by rw [weiL_len]; omega), weiL_len, Nat.sub_self, show n.length - i = (n.length - (i + 1)) + 1 from by omega, List.replicate_succ, List.set_cons_zero, weiL_succ, List.append_assoc]
      rfl
    rw [e2]
    exact ih (i + 1) (by omega)
end
theorem WeightsFor_both (p : Int) (l n : List Int) (hl : Sm l.length) (hn : Sm n.length) : ∃ v : Int × List Int × List Int × Int, Ev (fun k => spec_WeightsFor.f k p l n) v ∧ Ev (fun k => impl_WeightsFor.f k p l n) v ∧ Sm v.2.1.length ∧ Sm v.2.2.1.length := by
  have hc := momentsCode_ev p l hl (primeB p && (decide (0 ≤ (n.length : Int) ∧ (n.length : Int) ≤ (l.length : Int)) && decide (Nm p n)) && decide (ascFrom n 1)) [] (by simp [Sm]) (fun l h => by cases h)
  have hs := specAre_ev p l hl
  have hn' := hn
  unfold Sm at hn'
  have h1 : Ev (fun k => impl_WeightsFor_1.f k p l n) (primeB p && (decide (0 ≤ (n.length : Int) ∧ (n.length : Int) ≤ (l.length : Int)) && decide (Nm p n)) && decide (ascFrom n 1)) := by
    unfold impl_WeightsFor_1.f
    refine Ev.bindE (a := (l.length : Int)) rfl (Ev.bind (numbers_eq p n hn 0 (l.length : Int)) ?_)
    by_cases h : (primeB p && (decide (0 ≤ (n.length : Int) ∧ (n.length : Int) ≤ (l.length : Int)) && decide (Nm p n))) = true
    · rw [h, Bool.true_and]
      exact Ev.pos rfl (Ev.bind (asc_ev n hn) (Ev.now _))
    · rw [Bool.eq_false_iff.2 h, Bool.false_and]
      exact Ev.neg (by decide) (Ev.now _)
  by_cases h : momB p l = true
  · rw [h] at hc hs
    have hp := momB.pm h
    have nl := momB.nm h
    have hlen := momB.len h
    have hpr : primeB p = true := by
      have := h
      simp only [momB, Bool.and_eq_true] at this
      exact this.1
    have hzl : (List.replicate n.length (0 : Int)).length = n.length := List.length_replicate
    have hj : ∀ (b : Bool) v, Ev (fun k => spec_WeightsFor.j0 k n (if b = true then decide ((n.length : Int) > (l.length : Int)) else true) p l p n (List.replicate n.length 0)) v → ruleB p n (List.replicate n.length 0) = b → Ev (fun k => spec_WeightsFor.f k p l n) v := fun b v hv hb => by
      unfold spec_WeightsFor.f
      refine Ev.bind hs (Ev.pos rfl (Ev.bindE (own_eq _ hn) ?_))
      rw [toNat_nat]
      refine Ev.pos (by omega) (Ev.pos (by omega) (Ev.bindE rfl (Ev.bind (specRule_ev p n _ hn (by rw [hzl]; exact hn)) ?_)))
      rw [hb]
      cases b
      · exact Ev.neg (by decide) hv
      · exact Ev.pos rfl hv
    have hrule : ruleB p n (List.replicate n.length 0) = decide (n.length ≤ 24 ∧ Nm p n ∧ ascFrom n 1) := by
      unfold ruleB
      rw [hpr, Bool.true_and, decide_eq_decide, hzl]
      rw [okFrom_iff p n _ hzl]
      exact ⟨fun g => ⟨g.1, g.2.2.1, g.2.2.2.1⟩, fun g => ⟨g.1, rfl, g.2.1, g.2.2, Nm.zeros hp.pos _⟩⟩
    by_cases hg : n.length ≤ l.length ∧ Nm p n ∧ ascFrom n 1
    · have e : (primeB p && (decide (0 ≤ (n.length : Int) ∧ (n.length : Int) ≤ (l.length : Int)) && decide (Nm p n)) && decide (ascFrom n 1)) = true := by
        rw [hpr, decide_eq_true hg.2.1, decide_eq_true hg.2.2, decide_eq_true ⟨by omega, by omega⟩]; rfl
      rw [e] at hc h1
      refine ⟨(p, n, weiL p l n n.length, 0), ?_, ?_, by unfold Sm; dsimp only; omega, by rw [weiL_len]; unfold Sm; omega⟩
      · refine hj true _ ?_ (by rw [hrule, decide_eq_true ⟨by omega, hg.2.1, hg.2.2⟩])
        rw [if_pos rfl, decide_eq_false (by omega)]
        refine Ev.step (fun k => by rw [spec_WeightsFor.j0]) ?_
        have := specWei_l0 hp nl hg.2.1 hlen.2 hg.1 n.length 0 (by omega)
        exact Ev.neg (by decide) this
      · unfold impl_WeightsFor.f
        exact Ev.bind h1 (Ev.bind hc (Ev.pos rfl (Ev.bindE (a := n) (by unfold slices_Clone_ints.f; rw [if_pos (by omega)]) (implWei_l0 hp nl hg.2.1 hlen.2 hg.1 n.length 0 (by omega)))))
    · have e : (primeB p && (decide (0 ≤ (n.length : Int) ∧ (n.length : Int) ≤ (l.length : Int)) && decide (Nm p n)) && decide (ascFrom n 1)) = false := by
        rw [Bool.eq_false_iff]
        intro g
        simp only [Bool.and_eq_true, decide_eq_true_eq] at g
        exact hg ⟨by omega, g.1.2.2, g.2⟩
      rw [e] at hc h1
      refine ⟨(0, [], [], 2), ?_, ?_, by simp [Sm], by simp [Sm]⟩
      · by_cases hr : n.length ≤ 24 ∧ Nm p n ∧ ascFrom n 1
        · refine hj true _ ?_ (by rw [hrule, decide_eq_true hr])
          have hgt : ¬ n.length ≤ l.length := fun g => hg ⟨g, hr.2⟩
          rw [if_pos rfl, decide_eq_true (by omega)]
          refine Ev.step (fun k => by rw [spec_WeightsFor.j0]) ?_
          exact Ev.pos rfl (Ev.now _)
        · refine hj false _ ?_ (by rw [hrule, decide_eq_false hr])
          rw [if_neg (by decide)]
          refine Ev.step (fun k => by rw [spec_WeightsFor.j0]) ?_
          exact Ev.pos rfl (Ev.now _)
      · unfold impl_WeightsFor.f
        exact Ev.bind h1 (Ev.bind hc (Ev.neg (by simp) (Ev.now _)))
  · rw [Bool.eq_false_iff.2 h] at hc hs
    refine ⟨(0, [], [], 1), ?_, ?_, by simp [Sm], by simp [Sm]⟩
    · unfold spec_WeightsFor.f
      exact Ev.bind hs (Ev.neg (by decide) (Ev.now _))
    · unfold impl_WeightsFor.f
      exact Ev.bind h1 (Ev.bind hc (Ev.neg (by simp) (Ev.now _)))
end Go.Proofs.Ytfbnkebgdmfcfaa.Pr
namespace Go.Proofs.Ytfbnkebgdmfcfaa.Pure
/- FnExactWeightsFor: for every input the law answers true: the program's WeightsFor and the reference's come to one value, and the law's own copies, marks and comparisons answer as they have to. No condition. -/
open Go.RowKit Go.Proofs.Ytfbnkebgdmfcfaa.Pr Go.Proofs.YtfbnkebgdmfcfaaW.PrintWords Go.Proofs.YtfbnkebgdmfcfaaW.PrintLast
theorem FnExactWeightsFor : laws_FnExactWeightsFor.Pure := by
  intro a0_0 l0_1 l1 w0_0 ml0_1 wl0_1 ml1 yl1 wl1
  have main : Ev (fun k => laws_FnExactWeightsFor.f k a0_0 l0_1 l1) true := by
    unfold laws_FnExactWeightsFor.f
    by_cases sl1 : l1.length ≤ 1048576
    case neg => exact Ev.pos (by omega) (Ev.now _)
    refine Ev.neg (by omega) ?_
    replace sl1 : Sm l1.length := sl1
    by_cases z0 : l0_1.length ≤ 1048576
    case neg => exact Ev.bindE (szMoments_no _ l0_1 (by unfold maxLen at ml0_1; omega) (1048576) (by omega) (by omega)) (Ev.pos (by omega) (Ev.now _))
    refine Ev.bindE (szMoments_yes _ l0_1 (1048576) (by omega) z0) (Ev.neg (by omega) ?_)
    have sl0_1 : Sm l0_1.length := by unfold Sm; omega
    have bw0_0 := wf64 w0_0
    obtain ⟨v, hspec, himpl, hv0, hv1⟩ := WeightsFor_both a0_0 l0_1 l1 sl0_1 sl1
    repeat' first
      | exact Ev.now _
      | refine Ev.bind hspec ?_
      | refine Ev.bind himpl ?_
      | refine Ev.bind (toMoments_ev _ _ (by first | assumption | (rw [marks_length]; assumption))) ?_
      | refine Ev.bind (eqMoments_ev _ _ (by first | assumption | (rw [marks_length]; assumption))) ?_
      | refine Ev.bind (markMoments_ev _ _ (by first | assumption | (rw [marks_length]; assumption)) 1 (by omega)) ?_
      | refine Ev.bind (markMoments_ev _ _ (by first | assumption | (rw [marks_length]; assumption)) _ (by dsimp only; unfold Sm at *; omega)) ?_
      | refine Ev.bind (toRule_ev _ _ _ (by first | assumption | (rw [marks_length]; assumption)) (by first | assumption | (rw [marks_length]; assumption))) ?_
      | refine Ev.bind (eqRule_ev _ _ _ (by first | assumption | (rw [marks_length]; assumption)) (by first | assumption | (rw [marks_length]; assumption))) ?_
      | refine Ev.bind (markRule_ev _ _ _ (by first | assumption | (rw [marks_length]; assumption)) (by first | assumption | (rw [marks_length]; assumption)) 1 (by omega)) ?_
      | refine Ev.bind (markRule_ev _ _ _ (by first | assumption | (rw [marks_length]; assumption)) (by first | assumption | (rw [marks_length]; assumption)) _ (by dsimp only; unfold Sm at *; omega)) ?_
      | refine Ev.bind (heldRule_ev _ _ _ (by first | assumption | (rw [marks_length]; assumption)) (by first | assumption | (rw [marks_length]; assumption)) 1 (by omega)) ?_
      | refine Ev.bind (toInt64S_ev _ (by first | assumption | (rw [marks_length]; assumption))) ?_
      | refine Ev.bind (eqInt64S_ev _ (by first | assumption | (rw [marks_length]; assumption))) ?_
      | refine Ev.bind (markInt64S_ev _ 1 (by first | assumption | (rw [marks_length]; assumption)) (by omega)) ?_
      | refine Ev.bind (markInt64S_ev _ _ (by first | assumption | (rw [marks_length]; assumption)) (by dsimp only; unfold Sm at *; omega)) ?_
      | refine Ev.pos (by first | rfl | omega | (dsimp only; omega)) ?_
      | refine Ev.neg (by first | exact ne_self _ | omega | (dsimp only; omega) | decide) ?_
      | refine Ev.step (fun k => by rw [laws_FnExactWeightsFor.j0]) ?_
      | refine Ev.step (fun k => by rw [laws_FnExactWeightsFor.j1]) ?_
      | refine Ev.step (fun k => by rw [laws_FnExactWeightsFor.j2]) ?_
      | refine Ev.step (fun k => by rw [laws_FnExactWeightsFor.j3]) ?_
      | refine Ev.step (fun k => by rw [laws_FnExactWeightsFor.j4]) ?_
      | refine Ev.step (fun k => by rw [laws_FnExactWeightsFor.j5]) ?_
  exact main.rounds
end Go.Proofs.Ytfbnkebgdmfcfaa.Pure
namespace Go.Proofs.Ytfbnkebgdmfcfaa.fnExactWeightsFor
open Go.ChangeShapes Go.WideShapes Go.ChangeAt Go.RowKit
open Go.ChangeMaps (open_string shut_string)
set_option linter.unusedVariables false
theorem own : ownKnob Try.prog.godebug = none := by kernel_rfl
theorem laidOut : laidOutB Try.prog = true := by kernel_rfl
def IsRow (k : IntKind) (w : World) (a : Option Addr) (len cap : Nat) (zs : List Int) : Prop :=
  (a = none ∧ len = 0 ∧ cap = 0 ∧ zs = []) ∨
  ∃ x, a = some x ∧ len ≤ cap ∧ cap ≤ maxLen ∧ zs.length = cap ∧ (∀ i, i < zs.length → w.cell? (x.add i) = some (.int k (zs.getD i 0))) ∧ ∀ n ∈ zs, (Lit.int k n).wf = true
set_option maxRecDepth 100000 in
theorem lifted (os : Os) (started : os.Started) (H : Type) (enc : TypeId × Value → H) :
    ReturnsInHanded {} Try.checked os 4 .any (Rows.fnExactWeightsForSpec.pre6 enc Try.prog Try.f4 Rows.fnExactWeightsForRow.domain false) (Rows.fnExactWeightsForSpec.post enc Try.prog Try.f4 false true false false) := by
  refine returnsInHanded_of_change_sized (C := Try.checked) own started (by kernel_rfl) Try.func4
    (ChangeSpec.witness6 (enc := enc) (C := Try.checked) false ⟨#[], #[.agg #[.int .i64 0, .slice none 0 0], .slice none 0 0], []⟩ 8 (by kernel_rfl) (by kernel_rfl) (by kernel_rfl) (by kernel_rfl)) ?_
  intro W base args ds gs before hval0 hW hcnd hsz0 _
  have hsz : (DataW.weightsEach Try.prog (Try.f4.params.toList ++ Rows.fnExactWeightsForSpec.plain.varTypes Try.prog) (ds ++ gs)).all (· ≤ reachBytes) = true := hsz0
  have hval : ∀ (j : Nat) t v, Try.f4.params[j]? = some t → args[j]? = some v → Value.okWide Try.prog W .any base t v := hval0
  have hW' := hW
  obtain ⟨p, q, hA0, hV, rfl, hfz, hnd⟩ := hW
  have hA : DataW.TrodAll enc Try.prog W 0 (fun _ => true) true Try.f4.params.toList args.toList ds p := hA0
  rw [Try.params4] at hA hval hsz
  obtain ⟨v0, vs0, d0, ds0, p0, q0, hargs, rfl, rfl, h0, r0⟩ := trodAll_cons hA
  obtain ⟨v1, vs1, d1, ds1, p1, q1, rfl, rfl, rfl, h1, r1⟩ := trodAll_cons r0
  obtain ⟨rfl, rfl, rfl⟩ := trodAll_nil r1
  obtain rfl : args = #[v0, v1] := by cases args; simp_all
  obtain ⟨rfl, rfl⟩ := trodVars_none hV
  have k0 := h0
  have lt0 : ∀ x ∈ p0, x.block < W.heap.size := by obtain ⟨m, hm⟩ := k0; exact DataW.trod_lt m _ _ _ hm
  obtain ⟨c0_0, c0_1, y0_0, y0_1, n0, rfl, rfl, rfl, e0_0, e0_1⟩ := Go.Joins.open_agg2 Try.underlying34 (by kernel_rfl) (by kernel_rfl) (hval 0 34 v0 rfl rfl) h0
  obtain ⟨a0_0, f0_0, _, w0_0⟩ := DataW.trod_int Try.underlying2 e0_0
  simp only [List.cons.injEq, and_true] at f0_0
  subst f0_0
  obtain ⟨a0_1, len0_1, cap0_1, z0_1, f0_1, w0_1⟩ : ∃ a len cap zs, c0_1 = .slice a len cap ∧ IsRow .i64 W a len cap zs := by
    rcases open_ints Try.underlying22 Try.underlying2 (by kernel_rfl) e0_1 with ⟨hcs, _⟩ | ⟨x, l, c, zs, hcs, _, hl, hm, hz, _, hcell, hwz⟩
    · simp only [List.cons.injEq, and_true] at hcs
      exact ⟨none, 0, 0, [], hcs, .inl ⟨rfl, rfl, rfl, rfl⟩⟩
    · simp only [List.cons.injEq, and_true] at hcs
      exact ⟨some x, l, c, zs, hcs, .inr ⟨_, rfl, hl, hm, by simpa using hz, hcell, hwz⟩⟩
  subst f0_1
  obtain ⟨a1, len1, cap1, rfl⟩ := okWide_slice Try.underlying22 (hval 1 22 v1 rfl rfl)
  have k1 := h1
  have lt1 : ∀ x ∈ p1, x.block < W.heap.size := by obtain ⟨m, hm⟩ := k1; exact DataW.trod_lt m _ _ _ hm
  obtain ⟨z1, w1⟩ : ∃ zs, IsRow .i64 W a1 len1 cap1 zs := by
    obtain ⟨fuel, hf⟩ := h1
    rcases open_ints Try.underlying22 Try.underlying2 (by kernel_rfl) hf with ⟨hcs, _⟩ | ⟨x, l, c, zs, hcs, _, hl, hm, hz, _, hcell, hwz⟩
    · simp [Value.cells] at hcs
      obtain ⟨rfl, rfl, rfl⟩ := hcs
      exact ⟨[], .inl ⟨rfl, rfl, rfl, rfl⟩⟩
    · simp [Value.cells] at hcs
      obtain ⟨rfl, rfl, rfl⟩ := hcs
      exact ⟨zs, .inr ⟨_, rfl, hl, hm, by simpa using hz, hcell, hwz⟩⟩
  have y1 : len1 * 8 ≤ 140737488351232 := Go.Proofs.YtfbnkebgdmfcfaaW.PrintWords.sized_ints hsz (j := 1) (t := 22) rfl rfl Try.underlying22 Try.underlying2 (by kernel_rfl) (by kernel_rfl) h1
  clear hA0 hval0 hsz0 hsz
  refine (Pr.laws_FnExactWeightsFor.walk Pure.FnExactWeightsFor a0_0 a0_1 len0_1 cap0_1 z0_1 a1 len1 cap1 z1 W w0_0 w0_1 w1 y1).mono fun e W' ⟨he, bel⟩ => ?_
  subst he
  exact ⟨_, rfl, _, _, _, [], _, [], hW', trodAll_mk1 (shut_bool Try.underlying4 _), (trodAll_cons_mk (Below.trod laidOut (by kernel_rfl) (of_decide_eq_true (by kernel_rfl)) k0 bel lt0) (trodAll_cons_mk (Below.trod laidOut (by kernel_rfl) (of_decide_eq_true (by kernel_rfl)) k1 bel lt1) trodAll_mk0)), rfl, bel.frame _, fun h => by cases h⟩
theorem over : Rows.fnExactWeightsForRow.holds Try.pinned (OpenSpec.ofChange Rows.fnExactWeightsForSpec) :=
  OpenClaim.holds_of_wide 4 Try.f4 rfl rfl rfl rfl rfl rfl rfl ⟨rfl, rfl, rfl, rfl, rfl⟩ rfl rfl rfl rfl rfl (by kernel_rfl) Try.func4 (by kernel_rfl)
    (of_decide_eq_true (by kernel_rfl)) (by unfold Func.isWrapper; first | (rw [if_pos (by decide +kernel)]; kernel_rfl) | (rw [if_neg (by decide +kernel)]; exact ⟨rfl, rfl⟩))
    (fun os started H enc _ => lifted os started H enc)
theorem proved : Rows.FnExactWeightsForSaid := over
#print axioms proved
end Go.Proofs.Ytfbnkebgdmfcfaa.fnExactWeightsFor
namespace Go.Proofs.Ytfbnkebgdmfcfaa
/-- The row, under a short name, for the claim. -/
theorem fnExactWeightsFor_holds : Rows.FnExactWeightsForSaid := fnExactWeightsFor.proved
end Go.Proofs.Ytfbnkebgdmfcfaa
