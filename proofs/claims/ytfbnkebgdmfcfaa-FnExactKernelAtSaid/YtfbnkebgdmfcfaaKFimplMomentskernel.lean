/- Printed by a program of this session out of the translation: what these functions of the program compute, under the conditions that each theorem names. -/
import Derived.Test.YtfbnkebgdmfcfaaKC01
import Derived.Test.YtfbnkebgdmfcfaaKC02
import Derived.Test.YtfbnkebgdmfcfaaKC09
import Derived.Test.YtfbnkebgdmfcfaaKFimplMomentsupTo
import Derived.Test.YtfbnkebgdmfcfaaKC21
import Derived.Test.YtfbnkebgdmfcfaaKC11
namespace Go.Proofs.Ytfbnkebgdmfcfaa.Pr
open Go.RowKit Go.Proofs.YtfbnkebgdmfcfaaW.PrintWords Go.Proofs.YtfbnkebgdmfcfaaW.PrintLast Go.Proofs.YtfbnkebgdmfcfaaW.PrintMore
attribute [local go_sem] max2_int min2_int max_two min_two max_three min_three max_four min_four   -- for this text's walks alone
set_option linter.unusedVariables false
set_option linter.unusedSimpArgs false

/-! ### impl_Moments_kernel: function 144 -/
mutual
def impl_Moments_kernel.j0 : Nat → Int → Bool → Int → List Int → List (List Int) → List Int → Int → List Int → List Int → Option (List Int × Bool)
 | 0, _, _, _, _, _, _, _, _, _ => none
 | k + 1, x2, x28, x832000, x832001, x847000, x847001, x847002, x847003, x847004 => if x28 = true then (some (([] : List Int), false)) else ((impl_Moments_field.f x832000 x832001).bind fun t848 => (impl_Moments_kernel.l0 k x2 t848 ([] : List Int) x847000 (x847000.length : Int) 0 x832000 x832001 x847000 x847001 x847002 x847003 x847004))
def impl_Moments_kernel.l0 : Nat → Int → Int → List Int → List (List Int) → Int → Int → Int → List Int → List (List Int) → List Int → Int → List Int → List Int → Option (List Int × Bool)
 | 0, _, _, _, _, _, _, _, _, _, _, _, _, _ => none
 | k + 1, x2, x10, x11, x32, x33, x34, x832000, x832001, x847000, x847001, x847002, x847003, x847004 => if x34 < x33 then (if 0 ≤ x34 then (if x34 < (x32.length : Int) then ((impl_field_value.f x10 (rd_L1 x32 x34) x2).bind fun t853 => ((impl_field_product.f k x10 (rd_L1 x32 x34) (rd_L1 x32 x34)).bind fun t854 => ((impl_Moments_apply.f k x832000 x832001 t854).bind fun t857 => ((impl_field_div.f k x10 t853 t857).bind fun t858 => (if x11.length < 17592186044416 then (impl_Moments_kernel.l0 k x2 x10 (x11 ++ [t858]) x32 x33 (wrap64 (x34 + 1)) x832000 x832001 x847000 x847001 x847002 x847003 x847004) else (none)))))) else (none)) else (none)) else ((impl_field_sum.f k x10 x11 x847000).bind fun t849 => (some (t849, true)))
end
def impl_Moments_kernel.f (k : Nat) (a0_0 : Int) (l0_1 : List Int) (a1 : Int) (a2 : Int) : Option (List Int × Bool) := (impl_Moments_upTo.f k a0_0 l0_1 a1).bind fun bt832 => (if bt832.2.2.2.2.2 = true then ((impl_Moments_order.f k a0_0 l0_1).bind fun t847 => (impl_Moments_kernel.j0 k a2 (decide (t847 < (wrap64 (a1 + 1)))) a0_0 l0_1 bt832.1 bt832.2.1 bt832.2.2.1 bt832.2.2.2.1 bt832.2.2.2.2.1)) else (impl_Moments_kernel.j0 k a2 true a0_0 l0_1 bt832.1 bt832.2.1 bt832.2.2.1 bt832.2.2.2.1 bt832.2.2.2.2.1))
def impl_Moments_kernel.T9 : Bool × List (List Nat × List Nat) := (true, [([], []), ([], []), ([], []), ([], []), ([], []), ([2, 3, 4], [2, 3, 4]), ([], []), ([], []), ([], []), ([], []), ([7, 8, 9, 5], [7, 8, 9]), ([6, 10, 10], [6, 10]), ([1, 5, 11, 11], [1, 5, 11]), ([12], [12]), ([0, 13, 12], [0, 13]), ([14, 14, 0, 1, 2, 3, 4, 5, 6, 7, 8, 9, 10, 11, 12, 13, 14], [0, 14])])
def impl_Moments_kernel.B9 : List Nat := [0, 0, 0, 0, 0, 28, 0, 0, 0, 0, 956, 2044, 4094, 8190, 16383, 32767]
theorem impl_Moments_kernel.tab9 : rtab .any (opsOf Try.f144 9) = impl_Moments_kernel.T9 := by kernel_rfl
theorem impl_Moments_kernel.bits9 : waitsOk impl_Moments_kernel.T9.2 impl_Moments_kernel.B9 = true := by kernel_rfl
set_option maxHeartbeats 8000000 in
set_option maxRecDepth 100000 in
theorem impl_Moments_kernel.calls (k : Nat) (a0_0 : Int) (A0_1 : Option Addr) (c0_1 : Nat) (l0_1 : List Int) (a1 : Int) (a2 : Int) (r1 : List Int) (r2 : Bool) (w : World) (hr0_1 : Kd.C (Kd.int .i64) w A0_1 l0_1.length l0_1) (hc0_1 : l0_1.length ≤ c0_1) (h : impl_Moments_kernel.f k a0_0 l0_1 a1 a2 = some (r1, r2)) :
  Calls Try.prog 144 #[.agg #[.int .i64 a0_0, .slice A0_1 l0_1.length c0_1], .int .i64 a1, .int .i64 a2] w fun e w' => ∃ v0_ : Value, e = .returned (.tuple #[v0_, .bool r2]) ∧ Kd.R (Kd.int .i64) 2 w' w.heap.size (fun _ => True) v0_ r1 ∧ Below w.heap.size w w' := by
 have hu40 := Try.underlying40
 have hu95 := Try.underlying95
 have HR0_1 := zA hr0_1
 have HC0_1 := zA hc0_1
 clear hr0_1 hc0_1
 have HB := zA (Below.refl w.heap.size w)
 have H : ((impl_Moments_upTo.f k a0_0 l0_1 a1).bind fun bt832 => (if bt832.2.2.2.2.2 = true then ((impl_Moments_order.f k a0_0 l0_1).bind fun t847 => (impl_Moments_kernel.j0 k a2 (decide (t847 < (wrap64 (a1 + 1)))) a0_0 l0_1 bt832.1 bt832.2.1 bt832.2.2.1 bt832.2.2.2.1 bt832.2.2.2.2.1)) else (impl_Moments_kernel.j0 k a2 true a0_0 l0_1 bt832.1 bt832.2.1 bt832.2.2.1 bt832.2.2.2.1 bt832.2.2.2.2.1))) = some (r1, r2) := h
 clear h
 replace H := Option.bind_eq_some_iff.mp H
 obtain ⟨⟨t832, t835, t838, t839, t842, t845⟩, A40, H⟩ := H
 replace H : (if t845 = true then ((impl_Moments_order.f k a0_0 l0_1).bind fun t847 => (impl_Moments_kernel.j0 k a2 (decide (t847 < (wrap64 (a1 + 1)))) a0_0 l0_1 t832 t835 t838 t839 t842)) else (impl_Moments_kernel.j0 k a2 true a0_0 l0_1 t832 t835 t838 t839 t842)) = some (r1, r2) := H
 have A4 := zA A40
 clear A40
 have HC5 := zA H
 clear H
 go_enter Try.func144, Try.ntmps144
 go_upto_region 2 with (first | ((with_reducible refine gate_dst (N := 3) rfl ?_); refine bx 3 #[.int .i64 a0_0, .slice A0_1 l0_1.length c0_1] 40 ?_; intro gb831 hg w6 hbox hb; have BK831 := zA (hbox); have GW831 := gq HB hg; have GE831 := gq HB hg; replace HB := xH HB hb; have := geI GE831; clear hb hbox hg; have hcz7_0 := bc BK831 0; have hcz7_1 := bc BK831 1; have hfz7_0 := bf BK831 0; have hfz7_1 := bf BK831 1) | ((with_reducible refine gate_callee (f := 88) rfl ?_); refine gL (some 17) Try.func88 #[.agg #[.int .i64 a0_0, .slice A0_1 l0_1.length c0_1], .int .i64 a1] ?_; (with_reducible refine (impl_Moments_upTo.calls k a0_0 _ _ l0_1 a1 t832 t835 t838 t839 t842 t845 _ ?side1 ?side2 A4.out).mono ?_); (case side1 => exact uC ((Kd.C_below HR0_1.out HB.out))); (case side2 => exact HC0_1.out); rintro e w8 ⟨v833, v836, v840, v843, rfl, ho0, ho1, ho2, ho3, hb⟩; refine ⟨_, rfl, ?_⟩; have HO834 := zA (Kd.N_lower (Kd.N_mono (ok' := fun k_ => some k_ ≠ (v836 : Value).ownBlock ∧ some k_ ≠ (v840 : Value).ownBlock ∧ some k_ ≠ (v843 : Value).ownBlock ∧ k_ ≠ gb831) ho0 (fun k_ hk_ => ⟨hk_.2.1, hk_.2.2.1, hk_.2.2.2, (Kd.freshB (g := gb831) (o := .cells #[.int .i64 a0_0, .slice A0_1 l0_1.length c0_1] 40 (0, 0)) (uB BK831.out) k_ hk_.1)⟩)) (below_size (uH HB.out))); have HO837 := zA (Kd.R_lower (Kd.R_mono (ok' := fun k_ => some k_ ≠ (v840 : Value).ownBlock ∧ some k_ ≠ (v843 : Value).ownBlock) ho1 (fun _ hk_ => hk_.2)) (below_size (uH HB.out))); have HO841 := zA (Kd.R_lower (Kd.R_mono (ok' := fun k_ => some k_ ≠ (v836 : Value).ownBlock ∧ some k_ ≠ (v843 : Value).ownBlock) ho2 (fun _ hk_ => hk_.2)) (below_size (uH HB.out))); have HO844 := zA (Kd.R_lower (Kd.R_mono (ok' := fun k_ => some k_ ≠ (v836 : Value).ownBlock ∧ some k_ ≠ (v840 : Value).ownBlock) ho3 (fun _ hk_ => hk_.2)) (below_size (uH HB.out))); replace BK831 := xB BK831 hb; replace HB := xH HB hb; (try clear hb); (try clear hb2); (try clear hk); (try clear hi); (try clear ho0); (try clear ho1); (try clear ho2); (try clear ho3)) | ((with_reducible refine gate_dst (N := 8) rfl ?_); refine bx 8 #[.slice none 0 0, .slice none 0 0, .int .i64 0, .slice none 0 0, .slice none 0 0] 95 ?_; intro gb846 hg w9 hbox hb; replace HO834 := zA (Kd.N_below (Kd.N_elderB (by (with_reducible repeat (first | apply Kd.N_alloc | apply Kd.N_drewN | apply Kd.N_drew)); exact HO834.out) gb846 (Nat.le_of_eq hg.symm)) hb); replace HO837 := xR HO837 hb; replace HO841 := xR HO841 hb; replace HO844 := xR HO844 hb; have BK846 := zA (hbox); have GW846 := gq HB hg; have GE846 := gq HB hg; replace HB := xH HB hb; have NB831_846 := zA ((by rw [hg]; exact neL BK831 : gb831 ≠ gb846)); have NB846_831 := zA ((by rw [hg]; exact neG BK831 : gb846 ≠ gb831)); replace BK831 := xB BK831 hb; have := geI GE846; clear hb hbox hg; obtain ⟨Ao10, co10, eo10⟩ := Kd.N_slice HO834.out; subst eo10; have hnb11 := NB846_831.out; have hnc11 := NB831_846.out; have hcz12_0 := bc BK846 0; have hcz12_1 := bc BK846 1; have hcz12_2 := bc BK846 2; have hcz12_3 := bc BK846 3; have hcz12_4 := bc BK846 4; have hfz12_0 := bf BK846 0; have hfz12_1 := bf BK846 1; have hfz12_2 := bf BK846 2; have hfz12_3 := bf BK846 3; have hfz12_4 := bf BK846 4; obtain ⟨Ao13, co13, eo13⟩ := Kd.R_slice HO837.out; subst eo13; obtain ⟨Ao14, co14, eo14⟩ := Kd.R_slice HO841.out; subst eo14; obtain ⟨Ao15, co15, eo15⟩ := Kd.R_slice HO844.out; subst eo15))
 (try simp only [Act.put, ls, lz, ln])
 go_cut [28] (fun v28 wc => ∃ (kq : Nat) (x28_4 : Bool), v28 = .bool x28_4 ∧ Aside0 (impl_Moments_kernel.j0 kq a2 x28_4 a0_0 l0_1 t832 t835 t838 t839 t842 = some (r1, r2)) ∧ Aside0 (kq ≤ k) ∧ Aside0 (Kd.N (Kd.slice 2 (Kd.int .i64)) 22 wc w.heap.size (fun k_ => ax k_ (.slice Ao13 t835.length co13) ∧ ax k_ (.slice Ao14 t839.length co14) ∧ ax k_ (.slice Ao15 t842.length co15) ∧ k_ ≠ gb831 ∧ k_ ≠ gb846) (.slice Ao10 t832.length co10) t832) ∧ Aside0 (Kd.R (Kd.int .i64) 2 wc w.heap.size (fun k_ => ax k_ (.slice Ao14 t839.length co14) ∧ ax k_ (.slice Ao15 t842.length co15)) (.slice Ao13 t835.length co13) t835) ∧ Aside0 (Kd.R (Kd.int .i64) 2 wc w.heap.size (fun k_ => ax k_ (.slice Ao13 t835.length co13) ∧ ax k_ (.slice Ao15 t842.length co15)) (.slice Ao14 t839.length co14) t839) ∧ Aside0 (Kd.R (Kd.int .i64) 2 wc w.heap.size (fun k_ => ax k_ (.slice Ao13 t835.length co13) ∧ ax k_ (.slice Ao14 t839.length co14)) (.slice Ao15 t842.length co15) t842) ∧ Aside0 (wc.heap[gb831]? = some (.cells #[.int .i64 a0_0, (.slice A0_1 l0_1.length c0_1)] 40 (0, 0))) ∧ Aside0 (wc.heap[gb846]? = some (.cells #[(.slice Ao10 t832.length co10), (.slice Ao13 t835.length co13), .int .i64 t838, (.slice Ao14 t839.length co14), (.slice Ao15 t842.length co15)] 95 (0, 0))) ∧ Aside0 (Below w.heap.size w wc))
 case first =>
  have H := HC5.out
  clear HC5
  by_cases c16 : t845 = true
  ·subst c16
   have H1 : ((impl_Moments_order.f k a0_0 l0_1).bind fun t847 => (impl_Moments_kernel.j0 k a2 (decide (t847 < (wrap64 (a1 + 1)))) a0_0 l0_1 t832 t835 t838 t839 t842)) = some (r1, r2) := by rw [if_pos rfl] at H; exact H
   clear H
   have H := H1
   clear H1
   replace H := Option.bind_eq_some_iff.mp H
   obtain ⟨t847, A170, H⟩ := H
   replace H : (impl_Moments_kernel.j0 k a2 (decide (t847 < (wrap64 (a1 + 1)))) a0_0 l0_1 t832 t835 t838 t839 t842) = some (r1, r2) := H
   have A17 := zA A170
   clear A170
   have H' := zA H
   clear H
   have hnb18 := NB831_846.out; have hnc18 := NB846_831.out
   have hcz19_0 := bc BK831 0
   have hcz19_1 := bc BK831 1
   have hfz19_0 := bf BK831 0
   have hfz19_1 := bf BK831 1
   go_wp2_with (first | (go_at_call 93; (with_reducible refine (impl_Moments_order.calls k a0_0 _ _ l0_1 t847 _ ?side1 ?side2 A17.out).mono ?_); (case side1 => exact Kd.C_below HR0_1.out (uH HB.out)); (case side2 => exact HC0_1.out); rintro e w20 ⟨rfl, hb⟩; replace HO834 := zA (Kd.N_below (by (with_reducible repeat (first | apply Kd.N_alloc | apply Kd.N_drewN | apply Kd.N_drew)); exact (Kd.N_mono (Kd.N_far (p := ⟨gb846, 4, none⟩) (Kd.N_far (p := ⟨gb846, 3, none⟩) (Kd.N_far (p := ⟨gb846, 2, none⟩) (Kd.N_far (p := ⟨gb846, 1, none⟩) (Kd.N_far (p := ⟨gb846, 0, none⟩) (Kd.N_mono HO834.out (fun k_ hk => (⟨hk, hk.2⟩ : _ ∧ k_ ≠ gb846))) (fun _ hk => hk.2) (.slice Ao10 t832.length co10)) (fun _ hk => hk.2) (.slice Ao13 t835.length co13)) (fun _ hk => hk.2) (.int .i64 t838)) (fun _ hk => hk.2) (.slice Ao14 t839.length co14)) (fun _ hk => hk.2) (.slice Ao15 t842.length co15)) (fun _ h_ => h_.1))) hb); replace HO837 := zA (Kd.R_below (uR ((Kd.R_mono (Kd.R_far (p := ⟨gb846, 4, none⟩) (Kd.R_far (p := ⟨gb846, 3, none⟩) (Kd.R_far (p := ⟨gb846, 2, none⟩) (Kd.R_far (p := ⟨gb846, 1, none⟩) (Kd.R_far (p := ⟨gb846, 0, none⟩) (Kd.R_types HO837.out BK846.out (by decide)) (fun _ hk => hk.2) (.slice Ao10 t832.length co10)) (fun _ hk => hk.2) (.slice Ao13 t835.length co13)) (fun _ hk => hk.2) (.int .i64 t838)) (fun _ hk => hk.2) (.slice Ao14 t839.length co14)) (fun _ hk => hk.2) (.slice Ao15 t842.length co15)) (fun _ h_ => h_.1)))) hb); replace HO841 := zA (Kd.R_below (uR ((Kd.R_mono (Kd.R_far (p := ⟨gb846, 4, none⟩) (Kd.R_far (p := ⟨gb846, 3, none⟩) (Kd.R_far (p := ⟨gb846, 2, none⟩) (Kd.R_far (p := ⟨gb846, 1, none⟩) (Kd.R_far (p := ⟨gb846, 0, none⟩) (Kd.R_types HO841.out BK846.out (by decide)) (fun _ hk => hk.2) (.slice Ao10 t832.length co10)) (fun _ hk => hk.2) (.slice Ao13 t835.length co13)) (fun _ hk => hk.2) (.int .i64 t838)) (fun _ hk => hk.2) (.slice Ao14 t839.length co14)) (fun _ hk => hk.2) (.slice Ao15 t842.length co15)) (fun _ h_ => h_.1)))) hb); replace HO844 := zA (Kd.R_below (uR ((Kd.R_mono (Kd.R_far (p := ⟨gb846, 4, none⟩) (Kd.R_far (p := ⟨gb846, 3, none⟩) (Kd.R_far (p := ⟨gb846, 2, none⟩) (Kd.R_far (p := ⟨gb846, 1, none⟩) (Kd.R_far (p := ⟨gb846, 0, none⟩) (Kd.R_types HO844.out BK846.out (by decide)) (fun _ hk => hk.2) (.slice Ao10 t832.length co10)) (fun _ hk => hk.2) (.slice Ao13 t835.length co13)) (fun _ hk => hk.2) (.int .i64 t838)) (fun _ hk => hk.2) (.slice Ao14 t839.length co14)) (fun _ hk => hk.2) (.slice Ao15 t842.length co15)) (fun _ h_ => h_.1)))) hb); replace BK831 := zA (blk_below (g := gb831) (o := .cells #[.int .i64 a0_0, .slice A0_1 l0_1.length c0_1] 40 (0, 0)) (by (repeat refine up1 ?_); refine blk_far ?_ NB831_846.out _; (repeat refine up1 ?_); refine blk_far ?_ NB831_846.out _; (repeat refine up1 ?_); refine blk_far ?_ NB831_846.out _; (repeat refine up1 ?_); refine blk_far ?_ NB831_846.out _; (repeat refine up1 ?_); refine blk_far ?_ NB831_846.out _; (repeat refine up1 ?_); exact BK831.out) hb); replace BK846 := zA (blk_below (g := gb846) (o := .cells #[.slice Ao10 t832.length co10, .slice Ao13 t835.length co13, .int .i64 t838, .slice Ao14 t839.length co14, .slice Ao15 t842.length co15] 95 (0, 0)) (by (repeat refine up1 ?_); refine blk_put (cs := #[.slice Ao10 t832.length co10, .slice Ao13 t835.length co13, .int .i64 t838, .slice Ao14 t839.length co14, .slice none 0 0]) ?_ 4 _ rfl; (repeat refine up1 ?_); refine blk_put (cs := #[.slice Ao10 t832.length co10, .slice Ao13 t835.length co13, .int .i64 t838, .slice none 0 0, .slice none 0 0]) ?_ 3 _ rfl; (repeat refine up1 ?_); refine blk_put (cs := #[.slice Ao10 t832.length co10, .slice Ao13 t835.length co13, .int .i64 0, .slice none 0 0, .slice none 0 0]) ?_ 2 _ rfl; (repeat refine up1 ?_); refine blk_put (cs := #[.slice Ao10 t832.length co10, .slice none 0 0, .int .i64 0, .slice none 0 0, .slice none 0 0]) ?_ 1 _ rfl; (repeat refine up1 ?_); refine blk_put (cs := #[.slice none 0 0, .slice none 0 0, .int .i64 0, .slice none 0 0, .slice none 0 0]) ?_ 0 _ rfl; (repeat refine up1 ?_); exact BK846.out) hb); replace HB := xH HB hb; (try clear hb); (try clear hb2); (try clear hk); (try clear hi)))
   go_meet
   case rel => exact ⟨_, (decide (t847 < (wrap64 (a1 + 1)))), (by first | rfl | (simp; done) | (simp [*]; done)), H', ⟨by first | omega | exact Nat.le_refl _⟩, ⟨by (with_reducible repeat (first | apply Kd.N_alloc | apply Kd.N_drewN | apply Kd.N_drew)); exact Kd.N_mono HO834.out (fun _ hk => ⟨hk.1.1, ⟨hk.1.2.1, ⟨hk.1.2.2.1, ⟨hk.1.2.2.2, hk.2⟩⟩⟩⟩)⟩, ⟨uR HO837.out⟩, ⟨uR HO841.out⟩, ⟨uR HO844.out⟩, ⟨uB BK831.out⟩, ⟨uB BK846.out⟩, ⟨uH HB.out⟩⟩
  ·replace c16 := Bool.eq_false_iff.mpr c16
   subst c16
   have H1 : (impl_Moments_kernel.j0 k a2 true a0_0 l0_1 t832 t835 t838 t839 t842) = some (r1, r2) := by rw [if_neg (show ¬ (false = true) by decide)] at H; exact H
   clear H
   have H := H1
   clear H1
   have H' := zA H
   clear H
   go_wp2
   go_meet
   case rel => exact ⟨_, (true), (by first | rfl | (simp; done) | (simp [*]; done)), H', ⟨by first | omega | exact Nat.le_refl _⟩, ⟨by (with_reducible repeat (first | apply Kd.N_alloc | apply Kd.N_drewN | apply Kd.N_drew)); exact Kd.N_mono (Kd.N_far (p := ⟨gb846, 4, none⟩) (Kd.N_far (p := ⟨gb846, 3, none⟩) (Kd.N_far (p := ⟨gb846, 2, none⟩) (Kd.N_far (p := ⟨gb846, 1, none⟩) (Kd.N_far (p := ⟨gb846, 0, none⟩) (Kd.N_mono HO834.out (fun k_ hk => (⟨hk, hk.2⟩ : _ ∧ k_ ≠ gb846))) (fun _ hk => hk.2) (.slice Ao10 t832.length co10)) (fun _ hk => hk.2) (.slice Ao13 t835.length co13)) (fun _ hk => hk.2) (.int .i64 t838)) (fun _ hk => hk.2) (.slice Ao14 t839.length co14)) (fun _ hk => hk.2) (.slice Ao15 t842.length co15)) (fun _ hk => ⟨hk.1.1.1, ⟨hk.1.1.2.1, ⟨hk.1.1.2.2.1, ⟨hk.1.1.2.2.2, hk.1.2⟩⟩⟩⟩)⟩, ⟨uR (Kd.R_mono (Kd.R_far (p := ⟨gb846, 4, none⟩) (Kd.R_far (p := ⟨gb846, 3, none⟩) (Kd.R_far (p := ⟨gb846, 2, none⟩) (Kd.R_far (p := ⟨gb846, 1, none⟩) (Kd.R_far (p := ⟨gb846, 0, none⟩) (Kd.R_types HO837.out BK846.out (by decide)) (fun _ hk => hk.2) (.slice Ao10 t832.length co10)) (fun _ hk => hk.2) (.slice Ao13 t835.length co13)) (fun _ hk => hk.2) (.int .i64 t838)) (fun _ hk => hk.2) (.slice Ao14 t839.length co14)) (fun _ hk => hk.2) (.slice Ao15 t842.length co15)) (fun _ hk => ⟨hk.1.1, hk.1.2⟩))⟩, ⟨uR (Kd.R_mono (Kd.R_far (p := ⟨gb846, 4, none⟩) (Kd.R_far (p := ⟨gb846, 3, none⟩) (Kd.R_far (p := ⟨gb846, 2, none⟩) (Kd.R_far (p := ⟨gb846, 1, none⟩) (Kd.R_far (p := ⟨gb846, 0, none⟩) (Kd.R_types HO841.out BK846.out (by decide)) (fun _ hk => hk.2) (.slice Ao10 t832.length co10)) (fun _ hk => hk.2) (.slice Ao13 t835.length co13)) (fun _ hk => hk.2) (.int .i64 t838)) (fun _ hk => hk.2) (.slice Ao14 t839.length co14)) (fun _ hk => hk.2) (.slice Ao15 t842.length co15)) (fun _ hk => ⟨hk.1.1, hk.1.2⟩))⟩, ⟨uR (Kd.R_mono (Kd.R_far (p := ⟨gb846, 4, none⟩) (Kd.R_far (p := ⟨gb846, 3, none⟩) (Kd.R_far (p := ⟨gb846, 2, none⟩) (Kd.R_far (p := ⟨gb846, 1, none⟩) (Kd.R_far (p := ⟨gb846, 0, none⟩) (Kd.R_types HO844.out BK846.out (by decide)) (fun _ hk => hk.2) (.slice Ao10 t832.length co10)) (fun _ hk => hk.2) (.slice Ao13 t835.length co13)) (fun _ hk => hk.2) (.int .i64 t838)) (fun _ hk => hk.2) (.slice Ao14 t839.length co14)) (fun _ hk => hk.2) (.slice Ao15 t842.length co15)) (fun _ hk => ⟨hk.1.1, hk.1.2⟩))⟩, ⟨by (repeat refine up1 ?_); refine blk_far ?_ NB831_846.out _; (repeat refine up1 ?_); refine blk_far ?_ NB831_846.out _; (repeat refine up1 ?_); refine blk_far ?_ NB831_846.out _; (repeat refine up1 ?_); refine blk_far ?_ NB831_846.out _; (repeat refine up1 ?_); refine blk_far ?_ NB831_846.out _; (repeat refine up1 ?_); exact BK831.out⟩, ⟨by (repeat refine up1 ?_); refine blk_put (cs := #[.slice Ao10 t832.length co10, .slice Ao13 t835.length co13, .int .i64 t838, .slice Ao14 t839.length co14, .slice none 0 0]) ?_ 4 _ rfl; (repeat refine up1 ?_); refine blk_put (cs := #[.slice Ao10 t832.length co10, .slice Ao13 t835.length co13, .int .i64 t838, .slice none 0 0, .slice none 0 0]) ?_ 3 _ rfl; (repeat refine up1 ?_); refine blk_put (cs := #[.slice Ao10 t832.length co10, .slice Ao13 t835.length co13, .int .i64 0, .slice none 0 0, .slice none 0 0]) ?_ 2 _ rfl; (repeat refine up1 ?_); refine blk_put (cs := #[.slice Ao10 t832.length co10, .slice none 0 0, .int .i64 0, .slice none 0 0, .slice none 0 0]) ?_ 1 _ rfl; (repeat refine up1 ?_); refine blk_put (cs := #[.slice none 0 0, .slice none 0 0, .int .i64 0, .slice none 0 0, .slice none 0 0]) ?_ 0 _ rfl; (repeat refine up1 ?_); exact BK846.out⟩, ⟨uH HB.out⟩⟩
 case rest =>
  clear HC5
  (try clear c1);(try clear p2);(try clear p6);(try clear c8);(try clear c11);(try clear c14);(try clear c16);(try clear c18);(try clear hcz12_0);(try clear hcz12_1);(try clear hcz12_2);(try clear hcz12_3);(try clear hcz12_4);(try clear hcz19_0);(try clear hcz19_1);(try clear hcz7_0);(try clear hcz7_1);(try clear hfz12_0);(try clear hfz12_1);(try clear hfz12_2);(try clear hfz12_3);(try clear hfz12_4)
  (try clear hfz19_0);(try clear hfz19_1);(try clear hfz7_0);(try clear hfz7_1)
  obtain ⟨kq, x28_4, rfl, HA, HJ4, HO_847000, HO_847001, HO_847003, HO_847004, BK831, BK846, HB⟩ := hcut
  cases kq with
  | zero => exact absurd HA.out (by simp [impl_Moments_kernel.j0])
  | succ kj4 =>
   have H := HA.out
   clear HA
   simp only [impl_Moments_kernel.j0] at H
   by_cases c21 : x28_4 = true
   ·subst c21
    have H1 : (some (([] : List Int), false)) = some (r1, r2) := by rw [if_pos rfl] at H; exact H
    clear H
    have H := H1
    clear H1
    simp only [Option.some.injEq, Prod.mk.injEq] at H
    obtain ⟨rfl, rfl⟩ := H
    go_wp2
    go_ret2
    exact ⟨_, by first | rfl | (simp [errW_none, errW_some] <;> rfl) | (simp [*, errW_none, errW_some] <;> rfl), by first | exact Kd.R_nil _ _ _ _ _ | exact Kd.N_nil _ _ _ _ _ | exact Kd.V_nil _ _ _ _ _ | exact Kd.Q_nil _ _ _ _ _ | exact Kd.S_nil _ _ _ _ _, uH HB.out⟩
   ·replace c21 := Bool.eq_false_iff.mpr c21
    subst c21
    have H1 : ((impl_Moments_field.f a0_0 l0_1).bind fun t848 => (impl_Moments_kernel.l0 kj4 a2 t848 ([] : List Int) t832 (t832.length : Int) 0 a0_0 l0_1 t832 t835 t838 t839 t842)) = some (r1, r2) := by rw [if_neg (show ¬ (false = true) by decide)] at H; exact H
    clear H
    have H := H1
    clear H1
    replace H := Option.bind_eq_some_iff.mp H
    obtain ⟨t848, A220, H⟩ := H
    replace H : (impl_Moments_kernel.l0 kj4 a2 t848 ([] : List Int) t832 (t832.length : Int) 0 a0_0 l0_1 t832 t835 t838 t839 t842) = some (r1, r2) := H
    have A22 := zA A220
    clear A220
    have H' := zA H
    clear H
    have hnb23 := NB831_846.out; have hnc23 := NB846_831.out
    have hcz24_0 := bc BK831 0
    have hcz24_1 := bc BK831 1
    have hfz24_0 := bf BK831 0
    have hfz24_1 := bf BK831 1
    go_wp2_with (first | ((with_reducible refine gate_callee (f := 75) rfl ?_); refine gL (some 30) Try.func75 #[.agg #[.int .i64 a0_0, .slice A0_1 l0_1.length c0_1]] ?_; (with_reducible refine (impl_Moments_field.calls a0_0 _ _ l0_1 t848 _ ?side1 ?side2 A22.out).mono ?_); (case side1 => exact uC ((Kd.C_below HR0_1.out HB.out))); (case side2 => exact HC0_1.out); rintro e w25 ⟨rfl, hb⟩; refine ⟨_, rfl, ?_⟩; replace HO_847000 := zA (Kd.N_below (by (with_reducible repeat (first | apply Kd.N_alloc | apply Kd.N_drewN | apply Kd.N_drew)); exact HO_847000.out) hb); replace HO_847001 := xR HO_847001 hb; replace HO_847003 := xR HO_847003 hb; replace HO_847004 := xR HO_847004 hb; replace BK831 := xB BK831 hb; replace BK846 := xB BK846 hb; replace HB := xH HB hb; (try clear hb); (try clear hb2); (try clear hk); (try clear hi); have hcz26_0 := bc BK846 0; have hcz26_1 := bc BK846 1; have hcz26_2 := bc BK846 2; have hcz26_3 := bc BK846 3; have hcz26_4 := bc BK846 4; have hfz26_0 := bf BK846 0; have hfz26_1 := bf BK846 1; have hfz26_2 := bf BK846 2; have hfz26_3 := bf BK846 3; have hfz26_4 := bf BK846 4))
    go_loopg [11, 34] kj4 (fun kq v11 v34 w' => ∃ (x11_2 : List Int) (x34_2 : Int), v34 = .int .i64 x34_2 ∧ Aside0 (impl_Moments_kernel.l0 kq a2 t848 x11_2 t832 (t832.length : Int) x34_2 a0_0 l0_1 t832 t835 t838 t839 t842 = some (r1, r2)) ∧ Aside0 (kq ≤ kj4) ∧ Aside0 (Kd.R (Kd.int .i64) 2 w' w.heap.size (fun k_ => ax k_ (.slice Ao13 t835.length co13) ∧ ax k_ (.slice Ao14 t839.length co14) ∧ ax k_ (.slice Ao15 t842.length co15)) v11 x11_2) ∧ Aside0 (Kd.N (Kd.slice 2 (Kd.int .i64)) 22 w' w.heap.size (fun k_ => some k_ ≠ (v11 : Value).ownBlock ∧ ax k_ (.slice Ao13 t835.length co13) ∧ ax k_ (.slice Ao14 t839.length co14) ∧ ax k_ (.slice Ao15 t842.length co15) ∧ k_ ≠ gb831 ∧ k_ ≠ gb846) (.slice Ao10 t832.length co10) t832) ∧ Aside0 (Kd.N (Kd.slice 2 (Kd.int .i64)) 22 w' w.heap.size (fun k_ => some k_ ≠ (v11 : Value).ownBlock ∧ ax k_ (.slice Ao13 t835.length co13) ∧ ax k_ (.slice Ao14 t839.length co14) ∧ ax k_ (.slice Ao15 t842.length co15) ∧ k_ ≠ gb831 ∧ k_ ≠ gb846) (.slice Ao10 t832.length co10) t832) ∧ Aside0 (Kd.R (Kd.int .i64) 2 w' w.heap.size (fun k_ => some k_ ≠ (v11 : Value).ownBlock ∧ ax k_ (.slice Ao14 t839.length co14) ∧ ax k_ (.slice Ao15 t842.length co15)) (.slice Ao13 t835.length co13) t835) ∧ Aside0 (Kd.R (Kd.int .i64) 2 w' w.heap.size (fun k_ => some k_ ≠ (v11 : Value).ownBlock ∧ ax k_ (.slice Ao13 t835.length co13) ∧ ax k_ (.slice Ao15 t842.length co15)) (.slice Ao14 t839.length co14) t839) ∧ Aside0 (Kd.R (Kd.int .i64) 2 w' w.heap.size (fun k_ => some k_ ≠ (v11 : Value).ownBlock ∧ ax k_ (.slice Ao13 t835.length co13) ∧ ax k_ (.slice Ao14 t839.length co14)) (.slice Ao15 t842.length co15) t842) ∧ Aside0 (w'.heap[gb831]? = some (.cells #[.int .i64 a0_0, (.slice A0_1 l0_1.length c0_1)] 40 (0, 0))) ∧ Aside0 (w'.heap[gb846]? = some (.cells #[(.slice Ao10 t832.length co10), (.slice Ao13 t835.length co13), .int .i64 t838, (.slice Ao14 t839.length co14), (.slice Ao15 t842.length co15)] 95 (0, 0))) ∧ Aside0 (Below w.heap.size w w'))
    case atStart => exact ⟨(([] : List Int)), (0), (by first | rfl | (simp; done) | (simp [*]; done)), H', ⟨Nat.le_refl _⟩, ⟨by first | exact Kd.R_nil _ _ _ _ _ | exact Kd.N_nil _ _ _ _ _ | exact Kd.V_nil _ _ _ _ _ | exact Kd.Q_nil _ _ _ _ _ | exact Kd.S_nil _ _ _ _ _⟩, ⟨by (with_reducible repeat (first | apply Kd.N_alloc | apply Kd.N_drewN | apply Kd.N_drew)); exact Kd.N_mono HO_847000.out (fun _ hk => ⟨(by simp [Value.ownBlock]), ⟨hk.1, ⟨hk.2.1, ⟨hk.2.2.1, ⟨hk.2.2.2.1, hk.2.2.2.2⟩⟩⟩⟩⟩)⟩, ⟨by (with_reducible repeat (first | apply Kd.N_alloc | apply Kd.N_drewN | apply Kd.N_drew)); exact Kd.N_mono HO_847000.out (fun _ hk => ⟨(by simp [Value.ownBlock]), ⟨hk.1, ⟨hk.2.1, ⟨hk.2.2.1, ⟨hk.2.2.2.1, hk.2.2.2.2⟩⟩⟩⟩⟩)⟩, ⟨uR (Kd.R_mono HO_847001.out (fun _ hk => ⟨(by simp [Value.ownBlock]), ⟨hk.1, hk.2⟩⟩))⟩, ⟨uR (Kd.R_mono HO_847003.out (fun _ hk => ⟨(by simp [Value.ownBlock]), ⟨hk.1, hk.2⟩⟩))⟩, ⟨uR (Kd.R_mono HO_847004.out (fun _ hk => ⟨(by simp [Value.ownBlock]), ⟨hk.1, hk.2⟩⟩))⟩, ⟨uB BK831.out⟩, ⟨uB BK846.out⟩, ⟨uH HB.out⟩⟩
    case round =>
     clear H'
     (try clear c1);(try clear c2);(try clear p2);(try clear p6);(try clear c7);(try clear c8);(try clear c11);(try clear c14);(try clear c16);(try clear c18);(try clear c21);(try clear c23);(try clear hcz12_0);(try clear hcz12_1);(try clear hcz12_2);(try clear hcz12_3);(try clear hcz12_4);(try clear hcz19_0);(try clear hcz19_1);(try clear hcz24_0);(try clear hcz24_1);(try clear hcz26_0);(try clear hcz26_1)
     (try clear hcz26_2);(try clear hcz26_3);(try clear hcz26_4);(try clear hcz7_0);(try clear hcz7_1);(try clear hfz12_0);(try clear hfz12_1);(try clear hfz12_2);(try clear hfz12_3);(try clear hfz12_4);(try clear hfz19_0);(try clear hfz19_1);(try clear hfz24_0);(try clear hfz24_1);(try clear hfz26_0);(try clear hfz26_1);(try clear hfz26_2);(try clear hfz26_3);(try clear hfz26_4);(try clear hfz7_0)
     (try clear hfz7_1);(try clear p2);(try clear p6)
     obtain ⟨x11_2, x34_2, rfl, HA, HK2, HO_11, HO_32, HO_847000, HO_847001, HO_847003, HO_847004, BK831, BK846, HB⟩ := hrel
     cases gk with
     | zero => exact absurd HA.out (by simp [impl_Moments_kernel.l0])
     | succ k2 =>
      have H := HA.out
      clear HA
      simp only [impl_Moments_kernel.l0] at H
      by_cases c27 : x34_2 < (t832.length : Int)
      rotate_left
      ·rw [if_neg c27] at H
       have c27b0 : decide (x34_2 < (t832.length : Int)) = false := decide_eq_false c27
       clear c27
       replace H := Option.bind_eq_some_iff.mp H
       obtain ⟨t849, A410, H⟩ := H
       replace H : (some (t849, true)) = some (r1, r2) := H
       have A41 := zA A410
       clear A410
       simp only [Option.some.injEq, Prod.mk.injEq] at H
       obtain ⟨rfl, rfl⟩ := H
       have hnb42 := NB846_831.out; have hnc42 := NB831_846.out
       have hcz43_0 := bc BK846 0
       have hcz43_1 := bc BK846 1
       have hcz43_2 := bc BK846 2
       have hcz43_3 := bc BK846 3
       have hcz43_4 := bc BK846 4
       have hfz43_0 := bf BK846 0
       have hfz43_1 := bf BK846 1
       have hfz43_2 := bf BK846 2
       have hfz43_3 := bf BK846 3
       have hfz43_4 := bf BK846 4
       obtain ⟨Ao44, co44, eo44⟩ := Kd.R_slice HO_11.out
       subst eo44
       go_wp2_with (first | ((with_reducible refine gate_callee (f := 100) rfl ?_); refine gL (some 58) Try.func100 #[.int .i64 t848, .slice Ao44 x11_2.length co44, .slice Ao10 t832.length co10] ?_; (with_reducible refine (impl_field_sum.calls k2 t848 _ _ x11_2 _ _ t832 t849 _ ?side1 ?side2 ?side3 ?side4 A41.out).mono ?_); (case side1 => exact uC ((Kd.R_reads' HO_11.out).2.2)); (case side2 => exact (Kd.R_reads' HO_11.out).2.1); (case side3 => exact uC ((Kd.N_reads' HO_847000.out).2.2)); (case side4 => exact (Kd.N_reads' HO_847000.out).2.1); rintro e w45 ⟨v850, rfl, ho0, hb⟩; refine ⟨_, rfl, ?_⟩; replace HO_32 := zA (Kd.N_elder' (by (with_reducible repeat (first | apply Kd.N_alloc | apply Kd.N_drewN | apply Kd.N_drew)); exact HO_32.out) (Kd.R_base ho0) hb); replace HO_847000 := zA (Kd.N_elder' (by (with_reducible repeat (first | apply Kd.N_alloc | apply Kd.N_drewN | apply Kd.N_drew)); exact HO_847000.out) (Kd.R_base ho0) hb); have HO851 := zA (Kd.R_lower (Kd.R_new' (Kd.R_new' (Kd.R_new' (Kd.R_new' ho0 (Kd.R_lt (uR HO_11.out))) (Kd.R_lt (uR HO_847001.out))) (Kd.R_lt (uR HO_847003.out))) (Kd.R_lt (uR HO_847004.out))) (below_size (uH HB.out))); replace HO_11 := zA (Kd.R_elder' (uR HO_11.out) (Kd.R_base ho0) hb); replace HO_847001 := zA (Kd.R_elder' (uR HO_847001.out) (Kd.R_base ho0) hb); replace HO_847003 := zA (Kd.R_elder' (uR HO_847003.out) (Kd.R_base ho0) hb); replace HO_847004 := zA (Kd.R_elder' (uR HO_847004.out) (Kd.R_base ho0) hb); replace BK831 := xB BK831 hb; replace BK846 := xB BK846 hb; replace HB := xH HB hb; (try clear hb); (try clear hb2); (try clear hk); (try clear hi); (try clear ho0)))
       go_ret2
       exact ⟨_, by first | rfl | (simp [errW_none, errW_some] <;> rfl) | (simp [*, errW_none, errW_some] <;> rfl), uR (Kd.R_mono HO851.out (fun _ hk => trivial)), uH HB.out⟩

      rw [if_pos c27] at H
      have c27b0 : decide (x34_2 < (t832.length : Int)) = true := decide_eq_true c27
      clear c27
      by_cases c28 : 0 ≤ x34_2
      rotate_left
      ·rw [if_neg c28] at H
       exact absurd H (by simp)
      rw [if_pos c28] at H
      have c28b0 : decide (0 ≤ x34_2) = true := decide_eq_true c28
      clear c28
      by_cases c29 : x34_2 < (t832.length : Int)
      rotate_left
      ·rw [if_neg c29] at H
       exact absurd H (by simp)
      rw [if_pos c29] at H
      have c29b0 : decide (x34_2 < (t832.length : Int)) = true := decide_eq_true c29
      clear c29
      replace H := Option.bind_eq_some_iff.mp H
      obtain ⟨t853, A300, H⟩ := H
      replace H : ((impl_field_product.f k2 t848 (rd_L1 t832 x34_2) (rd_L1 t832 x34_2)).bind fun t854 => ((impl_Moments_apply.f k2 a0_0 l0_1 t854).bind fun t857 => ((impl_field_div.f k2 t848 t853 t857).bind fun t858 => (if x11_2.length < 17592186044416 then (impl_Moments_kernel.l0 k2 a2 t848 (x11_2 ++ [t858]) t832 (t832.length : Int) (wrap64 (x34_2 + 1)) a0_0 l0_1 t832 t835 t838 t839 t842) else (none))))) = some (r1, r2) := H
      have A30 := zA A300
      clear A300
      replace H := Option.bind_eq_some_iff.mp H
      obtain ⟨t854, A310, H⟩ := H
      replace H : ((impl_Moments_apply.f k2 a0_0 l0_1 t854).bind fun t857 => ((impl_field_div.f k2 t848 t853 t857).bind fun t858 => (if x11_2.length < 17592186044416 then (impl_Moments_kernel.l0 k2 a2 t848 (x11_2 ++ [t858]) t832 (t832.length : Int) (wrap64 (x34_2 + 1)) a0_0 l0_1 t832 t835 t838 t839 t842) else (none)))) = some (r1, r2) := H
      have A31 := zA A310
      clear A310
      replace H := Option.bind_eq_some_iff.mp H
      obtain ⟨t857, A320, H⟩ := H
      replace H : ((impl_field_div.f k2 t848 t853 t857).bind fun t858 => (if x11_2.length < 17592186044416 then (impl_Moments_kernel.l0 k2 a2 t848 (x11_2 ++ [t858]) t832 (t832.length : Int) (wrap64 (x34_2 + 1)) a0_0 l0_1 t832 t835 t838 t839 t842) else (none))) = some (r1, r2) := H
      have A32 := zA A320
      clear A320
      replace H := Option.bind_eq_some_iff.mp H
      obtain ⟨t858, A330, H⟩ := H
      replace H : (if x11_2.length < 17592186044416 then (impl_Moments_kernel.l0 k2 a2 t848 (x11_2 ++ [t858]) t832 (t832.length : Int) (wrap64 (x34_2 + 1)) a0_0 l0_1 t832 t835 t838 t839 t842) else (none)) = some (r1, r2) := H
      have A33 := zA A330
      clear A330
      by_cases c34 : x11_2.length < 17592186044416
      rotate_left
      ·rw [if_neg c34] at H
       exact absurd H (by simp)
      rw [if_pos c34] at H
      have LMc34 := zA c34
      clear c34
      obtain ⟨y859, hy859⟩ : ∃ y_ : List Int, y_ = (x11_2 ++ [t858]) := ⟨_, rfl⟩
      replace H : (impl_Moments_kernel.l0 k2 a2 t848 y859 t832 (t832.length : Int) (wrap64 (x34_2 + 1)) a0_0 l0_1 t832 t835 t838 t839 t842) = some (r1, r2) := by first | (rw [hy859]; exact H) | exact H
      have Ny859 := zA hy859
      clear hy859
      have H' := zA H
      clear H
      have p852 : 0 ≤ (x34_2 : Int) := of_decide_eq_true (by first | (with_reducible assumption) | assumption)
      have q852 : x34_2 < (t832.length : Int) := of_decide_eq_true (by first | (with_reducible assumption) | assumption)
      obtain ⟨ad852, A852_0, c852_0, e852, hx852_0, hl852_0, hi852_0⟩ := at_L1 (Kd.N_reads' HO_32.out).2.2 x34_2 p852 q852
      cases e852
      obtain ⟨ce852, hce852, hMe852, hcc852⟩ := Kd.N_get HO_32.out [] x34_2 p852 (by first | exact q852 | exact of_decide_eq_true (by first | (with_reducible assumption) | assumption) | (have e_ := (Kd.N_reads' HO_32.out).1; omega))
      obtain ⟨ua852_0, uc852_0, rfl, ul852_0, ge852_0⟩ := Kd.FK_slice_open hMe852
      have hv852_0 := hcc852 0 _ rfl
      rw [Nat.add_zero, show ((Kd.slice 2 (Kd.int .i64))).sz = 1 from rfl, Nat.mul_one] at hv852_0
      replace hv852_0 := Option.some.inj (hv852_0.symm.trans hx852_0)
      injection hv852_0 with hva_ hvn_ hvc_
      rw [hva_] at ge852_0
      rw [hvc_] at ul852_0
      have HL852_0 := zA (show Kd.V (Kd.int .i64) 2 _ w.heap.size _ _ (rd_L1 t832 x34_2) from Kd.V_mk ul852_0 ge852_0)
      clear hva_ hvn_ hvc_ ge852_0 ul852_0
      clear hcc852 hce852
      have HR852_0 := zA hi852_0
      have HC852_0 := zA hl852_0
      clear hi852_0 hl852_0
      replace p852 := eq_true p852
      replace q852 := eq_true q852
      try go_wp2
      replace HO_11 := zA (Kd.R_drew HO_11.out)
      replace HO_32 := zA (Kd.N_drew HO_32.out)
      replace HO_847000 := zA (Kd.N_drew HO_847000.out)
      replace HO_847001 := zA (Kd.R_drew HO_847001.out)
      replace HO_847003 := zA (Kd.R_drew HO_847003.out)
      replace HO_847004 := zA (Kd.R_drew HO_847004.out)
      replace HL852_0 := zA (Kd.V_drew HL852_0.out)
      replace BK831 := zA (blk_drew BK831.out)
      replace BK846 := zA (blk_drew BK846.out)
      replace HR852_0 := zA (Kd.C_drew HR852_0.out)
      replace HB := zA (below_drew1 HB.out)
      refine start_ (n := 16) (S := fun w' => w'.cell? ⟨gb831, 0, none⟩ = some (.int .i64 a0_0) ∧ w'.cell? ⟨gb831, 1, none⟩ = some (.slice A0_1 l0_1.length c0_1)) (ds := []) #[false, false, false, false, false, false, false, false, false, false, false, false, false, false, false, false] (by kernel_rfl) rfl rfl ⟨bcu BK831 0, bcu BK831 1⟩ (fun hHeld => ?_); refine with_tabW impl_Moments_kernel.tab9 impl_Moments_kernel.bits9 (fun HT_ HW_ => ?_)
      generalize wr.drew = w35 at HO_11 HO_32 HO_847000 HO_847001 HO_847003 HO_847004 HL852_0 BK831 BK846 HR852_0 HB hHeld ⊢
      refine pu_ 0 38 (bl 16 1) HT_ ?_
      refine pu_ 1 39 (bl 16 3) HT_ ?_
      refine pu_ 2 40 (bl 16 7) HT_ ?_
      refine pu_ 3 41 (bl 16 15) HT_ ?_
      refine pu_ 4 42 (bl 16 31) HT_ ?_
      refine pu_ 7 45 (bl 16 159) HT_ ?_
      refine pu_ 8 46 (bl 16 415) HT_ ?_
      refine pu_ 9 47 (bl 16 927) HT_ ?_
      refine ta_ 6 44 (bl 16 991) HT_ HW_ hHeld ?_
      refine on_ 5 (some 43) (bl 16 1023) HT_ (fun K hK => ?_)
      refine gS Try.func110 #[.int .i64 t848, .slice A852_0 (rd_L1 t832 x34_2).length c852_0, .int .i64 a2] ?_
      with_reducible refine (impl_field_value.calls t848 _ _ (rd_L1 t832 x34_2) a2 t853 _ ?side1 ?side2 A30.out).mono ?_
      (case side1 => repeat (first | exact (by repeat (first | (with_reducible exact HR852_0.out) | (with_reducible refine Kd.C_alloc ?_ _) | (with_reducible refine Kd.C_drewN ?_ _) | (with_reducible refine Kd.C_drew ?_) | exact HR852_0.out)) | (with_reducible refine Kd.C_alloc ?_ _) | (with_reducible refine Kd.C_drewN ?_ _) | (with_reducible refine Kd.C_drew ?_)))
      (case side2 => exact HC852_0.out)
      rintro e w36 ⟨rfl, hb⟩
      refine ⟨_, rfl, ?_⟩
      replace HO_11 := xR HO_11 hb
      replace HO_32 := zA (Kd.N_below (by (with_reducible repeat (first | apply Kd.N_alloc | apply Kd.N_drewN | apply Kd.N_drew)); exact HO_32.out) hb)
      replace HO_847000 := zA (Kd.N_below (by (with_reducible repeat (first | apply Kd.N_alloc | apply Kd.N_drewN | apply Kd.N_drew)); exact HO_847000.out) hb)
      replace HO_847001 := xR HO_847001 hb
      replace HO_847003 := xR HO_847003 hb
      replace HO_847004 := xR HO_847004 hb
      replace HL852_0 := zA (Kd.V_below (by (with_reducible repeat (first | apply Kd.V_alloc | apply Kd.V_drewN | apply Kd.V_drew)); exact HL852_0.out) hb)
      replace BK831 := xB BK831 hb
      replace BK846 := xB BK846 hb
      replace HR852_0 := zA (Kd.C_below (by repeat (first | (with_reducible exact HR852_0.out) | (with_reducible refine Kd.C_alloc ?_ _) | (with_reducible refine Kd.C_drewN ?_ _) | (with_reducible refine Kd.C_drew ?_) | exact HR852_0.out)) hb)
      replace HB := xH HB hb
      (try clear hb); (try clear hb2); (try clear hk); (try clear hi)
      refine hK.out _ _ ⟨bcu BK831 0, bcu BK831 1⟩ (fun hHeld => ?_)
      clear hK K
      refine no_ 43 ?_
      refine on_ 10 (some 48) (bl 16 2047) HT_ (fun K hK => ?_)
      refine gS Try.func89 #[.int .i64 t848, .slice A852_0 (rd_L1 t832 x34_2).length c852_0, .slice A852_0 (rd_L1 t832 x34_2).length c852_0] ?_
      with_reducible refine (impl_field_product.calls k2 t848 _ _ (rd_L1 t832 x34_2) _ _ (rd_L1 t832 x34_2) t854 _ ?side1 ?side2 ?side3 ?side4 A31.out).mono ?_
      (case side1 => repeat (first | exact (by repeat (first | (with_reducible exact HR852_0.out) | (with_reducible refine Kd.C_alloc ?_ _) | (with_reducible refine Kd.C_drewN ?_ _) | (with_reducible refine Kd.C_drew ?_) | exact HR852_0.out)) | (with_reducible refine Kd.C_alloc ?_ _) | (with_reducible refine Kd.C_drewN ?_ _) | (with_reducible refine Kd.C_drew ?_)))
      (case side2 => exact HC852_0.out)
      (case side3 => repeat (first | exact (by repeat (first | (with_reducible exact HR852_0.out) | (with_reducible refine Kd.C_alloc ?_ _) | (with_reducible refine Kd.C_drewN ?_ _) | (with_reducible refine Kd.C_drew ?_) | exact HR852_0.out)) | (with_reducible refine Kd.C_alloc ?_ _) | (with_reducible refine Kd.C_drewN ?_ _) | (with_reducible refine Kd.C_drew ?_)))
      (case side4 => exact HC852_0.out)
      rintro e w37 ⟨v855, rfl, ho0, hb⟩
      refine ⟨_, rfl, ?_⟩
      replace HO_32 := zA (Kd.N_elder' (by (with_reducible repeat (first | apply Kd.N_alloc | apply Kd.N_drewN | apply Kd.N_drew)); exact HO_32.out) (Kd.R_base ho0) hb)
      replace HO_847000 := zA (Kd.N_elder' (by (with_reducible repeat (first | apply Kd.N_alloc | apply Kd.N_drewN | apply Kd.N_drew)); exact HO_847000.out) (Kd.R_base ho0) hb)
      replace HL852_0 := zA (Kd.V_elder' (by (with_reducible repeat (first | apply Kd.V_alloc | apply Kd.V_drewN | apply Kd.V_drew)); exact HL852_0.out) (Kd.R_base ho0) hb)
      have HO856 := zA (Kd.R_lower (Kd.R_new' (Kd.R_new' (Kd.R_new' (Kd.R_new' ho0 (Kd.R_lt (uR HO_11.out))) (Kd.R_lt (uR HO_847001.out))) (Kd.R_lt (uR HO_847003.out))) (Kd.R_lt (uR HO_847004.out))) (below_size (uH HB.out)))
      replace HO_11 := zA (Kd.R_elder' (uR HO_11.out) (Kd.R_base ho0) hb)
      replace HO_847001 := zA (Kd.R_elder' (uR HO_847001.out) (Kd.R_base ho0) hb)
      replace HO_847003 := zA (Kd.R_elder' (uR HO_847003.out) (Kd.R_base ho0) hb)
      replace HO_847004 := zA (Kd.R_elder' (uR HO_847004.out) (Kd.R_base ho0) hb)
      replace BK831 := xB BK831 hb
      replace BK846 := xB BK846 hb
      replace HR852_0 := zA (Kd.C_below (by repeat (first | (with_reducible exact HR852_0.out) | (with_reducible refine Kd.C_alloc ?_ _) | (with_reducible refine Kd.C_drewN ?_ _) | (with_reducible refine Kd.C_drew ?_) | exact HR852_0.out)) hb)
      replace HB := xH HB hb
      (try clear hb); (try clear hb2); (try clear hk); (try clear hi); (try clear ho0)
      obtain ⟨Ao38, co38, eo38⟩ := Kd.R_slice HO856.out
      (first | subst eo38 | (injection eo38 with f1_ f2_ f3_; have f4_ := f1_.symm; have f5_ := f3_.symm; clear f1_ f2_ f3_; subst f4_; subst f5_))
      refine hK.out _ _ ⟨bcu BK831 0, bcu BK831 1⟩ (fun hHeld => ?_)
      clear hK K
      refine no_ 48 ?_
      refine on_ 11 (some 49) (bl 16 4095) HT_ (fun K hK => ?_)
      refine gS Try.func74 #[.agg #[.int .i64 a0_0, .slice A0_1 l0_1.length c0_1], .slice Ao38 t854.length co38] ?_
      with_reducible refine (impl_Moments_apply.calls k2 a0_0 _ _ l0_1 _ _ t854 t857 _ ?side1 ?side2 ?side3 ?side4 A32.out).mono ?_
      (case side1 => exact uC ((Kd.C_below HR0_1.out HB.out)))
      (case side2 => exact HC0_1.out)
      (case side3 => exact uC ((Kd.R_reads' HO856.out).2.2))
      (case side4 => exact (Kd.R_reads' HO856.out).2.1)
      rintro e w39 ⟨rfl, hb⟩
      refine ⟨_, rfl, ?_⟩
      replace HO_11 := xR HO_11 hb
      replace HO_32 := zA (Kd.N_below (by (with_reducible repeat (first | apply Kd.N_alloc | apply Kd.N_drewN | apply Kd.N_drew)); exact HO_32.out) hb)
      replace HO_847000 := zA (Kd.N_below (by (with_reducible repeat (first | apply Kd.N_alloc | apply Kd.N_drewN | apply Kd.N_drew)); exact HO_847000.out) hb)
      replace HO_847001 := xR HO_847001 hb
      replace HO_847003 := xR HO_847003 hb
      replace HO_847004 := xR HO_847004 hb
      replace HL852_0 := zA (Kd.V_below (by (with_reducible repeat (first | apply Kd.V_alloc | apply Kd.V_drewN | apply Kd.V_drew)); exact HL852_0.out) hb)
      replace HO856 := xR HO856 hb
      replace BK831 := xB BK831 hb
      replace BK846 := xB BK846 hb
      replace HR852_0 := zA (Kd.C_below (by repeat (first | (with_reducible exact HR852_0.out) | (with_reducible refine Kd.C_alloc ?_ _) | (with_reducible refine Kd.C_drewN ?_ _) | (with_reducible refine Kd.C_drew ?_) | exact HR852_0.out)) hb)
      replace HB := xH HB hb
      (try clear hb); (try clear hb2); (try clear hk); (try clear hi)
      refine hK.out _ _ ⟨bcu BK831 0, bcu BK831 1⟩ (fun hHeld => ?_)
      clear hK K
      refine no_ 49 ?_
      refine on_ 12 (some 50) (bl 16 8191) HT_ (fun K hK => ?_)
      refine gS Try.func132 #[.int .i64 t848, .int .i64 t853, .int .i64 t857] ?_
      with_reducible refine (impl_field_div.calls k2 t848 t853 t857 t858 _ A33.out).mono ?_
      rintro e w' ⟨rfl, ⟨nd, rfl⟩⟩
      refine ⟨_, rfl, ?_⟩
      refine hK.out _ _ ⟨bcu BK831 0, bcu BK831 1⟩ (fun hHeld => ?_)
      clear hK K
      refine no_ 50 ?_
      refine on_ 13 (some 51) (bl 16 16383) HT_ (fun K hK => ?_)
      refine value_ (w1 := ?_) (v := ?_) (by rfl) rfl ?_ ?_
      rotate_left 2
      ·go_simp
       constructor
       ·rfl
       ·rfl
      refine hK.out _ _ ⟨(blk_cell (blk_alloc BK831.out _) 0).trans rfl, (blk_cell (blk_alloc BK831.out _) 1).trans rfl⟩ (fun hHeld => ?_)
      clear hK K
      refine no_ 51 ?_
      refine on_ 14 (some 52) (bl 16 32767) HT_ (fun K hK => ?_)
      refine Kd.R_append_step (Kd.int .i64) (w0 := w) w.heap.size (by rfl) (.tmp 38) (.tmp 51) 22 2 (.int .i64 0) 8 rfl Try.underlying22 info2 rfl (by decide) (by omega) u11 x11_2 t858 [.int .i64 t858] (fun k_ => ax k_ (.slice Ao13 t835.length co13) ∧ ax k_ (.slice Ao14 t839.length co14) ∧ ax k_ (.slice Ao15 t842.length co15) ∧ ax k_ (.slice Ao38 t854.length co38)) (fun _ => False) rfl rfl ?aP (fun _ hk => hk.elim) ?aF ?aO ?aB ?aS ?aL ?_
      (case aP => exact rfl)
      (case aB => exact (uH HB.out))
      (case aF => exact (fun k_ hk => ⟨Kd.fresh' (Kd.R_lt (uR HO_847001.out)) k_ hk, Kd.fresh' (Kd.R_lt (uR HO_847003.out)) k_ hk, Kd.fresh' (Kd.R_lt (uR HO_847004.out)) k_ hk, Kd.fresh' (Kd.R_lt (uR HO856.out)) k_ hk⟩))
      (case aO => exact (uR (Kd.R_mono HO_11.out (fun _ hk => ⟨hk.1.1, ⟨hk.1.2.1, ⟨hk.1.2.2, hk.2⟩⟩⟩))))
      (case aS => exact (below_size (uH HB.out)))
      (case aL => have := LMc34.out; omega)
      intro v860 w40 ho hb hg hat
      rw [← Ny859.out] at ho
      replace HO_32 := zA (Kd.N_afterv (ok := (fun k_ => ax k_ (.slice Ao13 t835.length co13) ∧ ax k_ (.slice Ao14 t839.length co14) ∧ ax k_ (.slice Ao15 t842.length co15) ∧ ax k_ (.slice Ao38 t854.length co38) ∧ k_ ≠ gb831 ∧ k_ ≠ gb846)) (by (with_reducible repeat (first | apply Kd.N_alloc | apply Kd.N_drewN | apply Kd.N_drew)); exact Kd.N_mono HO_32.out (fun _ hk => ⟨⟨hk.1.2.1, ⟨hk.1.2.2.1, ⟨hk.1.2.2.2.1, ⟨hk.2, ⟨hk.1.2.2.2.2.1, hk.1.2.2.2.2.2⟩⟩⟩⟩⟩, hk.1.1⟩)) hg hat)
      replace HO_847000 := zA (Kd.N_afterv (ok := (fun k_ => ax k_ (.slice Ao13 t835.length co13) ∧ ax k_ (.slice Ao14 t839.length co14) ∧ ax k_ (.slice Ao15 t842.length co15) ∧ ax k_ (.slice Ao38 t854.length co38) ∧ k_ ≠ gb831 ∧ k_ ≠ gb846)) (by (with_reducible repeat (first | apply Kd.N_alloc | apply Kd.N_drewN | apply Kd.N_drew)); exact Kd.N_mono HO_847000.out (fun _ hk => ⟨⟨hk.1.2.1, ⟨hk.1.2.2.1, ⟨hk.1.2.2.2.1, ⟨hk.2, ⟨hk.1.2.2.2.2.1, hk.1.2.2.2.2.2⟩⟩⟩⟩⟩, hk.1.1⟩)) hg hat)
      replace HO_847001 := zA (Kd.R_after (ok := (fun k_ => ax k_ (.slice Ao14 t839.length co14) ∧ ax k_ (.slice Ao15 t842.length co15) ∧ ax k_ (.slice Ao38 t854.length co38))) (uR (Kd.R_mono HO_847001.out (fun _ hk => ⟨⟨hk.1.2.1, ⟨hk.1.2.2, hk.2⟩⟩, hk.1.1⟩))) hg hat)
      replace HO_847003 := zA (Kd.R_after (ok := (fun k_ => ax k_ (.slice Ao13 t835.length co13) ∧ ax k_ (.slice Ao15 t842.length co15) ∧ ax k_ (.slice Ao38 t854.length co38))) (uR (Kd.R_mono HO_847003.out (fun _ hk => ⟨⟨hk.1.2.1, ⟨hk.1.2.2, hk.2⟩⟩, hk.1.1⟩))) hg hat)
      replace HO_847004 := zA (Kd.R_after (ok := (fun k_ => ax k_ (.slice Ao13 t835.length co13) ∧ ax k_ (.slice Ao14 t839.length co14) ∧ ax k_ (.slice Ao38 t854.length co38))) (uR (Kd.R_mono HO_847004.out (fun _ hk => ⟨⟨hk.1.2.1, ⟨hk.1.2.2, hk.2⟩⟩, hk.1.1⟩))) hg hat)
      replace BK831 := zA (blk_grown (g := gb831) (o := .cells #[.int .i64 a0_0, .slice A0_1 l0_1.length c0_1] 40 (0, 0)) (uB BK831.out) hg (Kd.R_ne HO_11.out BK831.out (by decide)))
      replace BK846 := zA (blk_grown (g := gb846) (o := .cells #[.slice (some ad852) t832.length co10, .slice Ao13 t835.length co13, .int .i64 t838, .slice Ao14 t839.length co14, .slice Ao15 t842.length co15] 95 (0, 0)) (uB BK846.out) hg (Kd.R_ne HO_11.out BK846.out (by decide)))
      replace HL852_0 := zA (Kd.V_afterv (ok := (fun k_ => ax k_ (.slice (some ad852) t832.length co10) ∧ ax k_ (.slice Ao13 t835.length co13) ∧ ax k_ (.slice Ao14 t839.length co14) ∧ ax k_ (.slice Ao15 t842.length co15) ∧ ax k_ (.slice Ao38 t854.length co38) ∧ k_ ≠ gb831 ∧ k_ ≠ gb846)) (by (with_reducible repeat (first | apply Kd.V_alloc | apply Kd.V_drewN | apply Kd.V_drew)); exact Kd.V_mono HL852_0.out (fun _ hk => ⟨⟨hk.1.2, ⟨hk.1.1.2.1, ⟨hk.1.1.2.2.1, ⟨hk.1.1.2.2.2.1, ⟨hk.2, ⟨hk.1.1.2.2.2.2.1, hk.1.1.2.2.2.2.2⟩⟩⟩⟩⟩⟩, hk.1.1.1⟩)) hg hat)
      replace HO856 := zA (Kd.R_after (ok := (fun k_ => ax k_ (.slice Ao13 t835.length co13) ∧ ax k_ (.slice Ao14 t839.length co14) ∧ ax k_ (.slice Ao15 t842.length co15))) (uR (Kd.R_mono HO856.out (fun _ hk => ⟨⟨hk.1.1.2, ⟨hk.1.2, hk.2⟩⟩, hk.1.1.1.2⟩))) hg hat)
      replace HB := zA (hb)
      have HO861 := zA (ho)
      clear HO_11
      clear ho hb hg hat
      refine hK.out _ _ ⟨bcu BK831 0, bcu BK831 1⟩ (fun hHeld => ?_)
      clear hK K
      refine no_ 52 ?_
      refine pu_ 15 11 (bl 16 65535) HT_ ?_
      refine done_ (done_of HT_.out (by kernel_rfl)) ?_
      try go_wp2
      go_roundg k2
      case measure => have := HJ4.out; have := HK2.out; omega
      case rel => exact ⟨(y859), (wrap64 (x34_2 + 1)), (by first | rfl | (simp; done) | (simp [*]; done)), H', ⟨by have := HJ4.out; have := HK2.out; omega⟩, ⟨uR (Kd.R_mono HO861.out (fun _ hk => ⟨hk.1, ⟨hk.2.1, hk.2.2.1⟩⟩))⟩, ⟨by (with_reducible repeat (first | apply Kd.N_alloc | apply Kd.N_drewN | apply Kd.N_drew)); exact Kd.N_mono HO_32.out (fun _ hk => ⟨hk.2, ⟨hk.1.1, ⟨hk.1.2.1, ⟨hk.1.2.2.1, ⟨hk.1.2.2.2.2.1, hk.1.2.2.2.2.2⟩⟩⟩⟩⟩)⟩, ⟨by (with_reducible repeat (first | apply Kd.N_alloc | apply Kd.N_drewN | apply Kd.N_drew)); exact Kd.N_mono HO_847000.out (fun _ hk => ⟨hk.2, ⟨hk.1.1, ⟨hk.1.2.1, ⟨hk.1.2.2.1, ⟨hk.1.2.2.2.2.1, hk.1.2.2.2.2.2⟩⟩⟩⟩⟩)⟩, ⟨uR (Kd.R_mono HO_847001.out (fun _ hk => ⟨hk.2, ⟨hk.1.1, hk.1.2.1⟩⟩))⟩, ⟨uR (Kd.R_mono HO_847003.out (fun _ hk => ⟨hk.2, ⟨hk.1.1, hk.1.2.1⟩⟩))⟩, ⟨uR (Kd.R_mono HO_847004.out (fun _ hk => ⟨hk.2, ⟨hk.1.1, hk.1.2.1⟩⟩))⟩, ⟨uB BK831.out⟩, ⟨uB BK846.out⟩, ⟨uH HB.out⟩⟩
end Go.Proofs.Ytfbnkebgdmfcfaa.Pr
