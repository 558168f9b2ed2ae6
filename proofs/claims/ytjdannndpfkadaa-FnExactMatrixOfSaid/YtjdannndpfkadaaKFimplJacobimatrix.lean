/- Printed by a program of this session out of the translation: what these functions of the program compute, under the conditions that each theorem names. -/
import Derived.Test.YtjdannndpfkadaaKMatrixOf1
namespace Go.Proofs.Ytjdannndpfkadaa.Pr
open Go.RowKit Go.Proofs.YtjdannndpfkadaaW.PrintWords Go.Proofs.YtjdannndpfkadaaW.PrintLast Go.Proofs.YtjdannndpfkadaaW.PrintMore
attribute [local go_sem] max2_int min2_int max_two min_two max_three min_three max_four min_four   -- for this text's walks alone
set_option linter.unusedVariables false
set_option linter.unusedSimpArgs false

/-! ### impl_Jacobi_matrix: function 39 -/
def impl_Jacobi_matrix.l0 : Nat → List (List Int) → List Int → Int → Int → Int → List Int → List Int → Option ((List (List Int)))
 | 0, _, _, _, _, _, _, _ => none
 | k + 1, x3, x8, x9, x10, x177000, x177001, x177002 => if x10 < x9 then (if 0 ≤ x10 then (if x10 < (x8.length : Int) then (if 0 ≤ (x177001.length : Int) then (if ((x177001.length : Int) : Int).toNat ≤ 35184372088832 then ((some (List.replicate ((x177001.length : Int) : Int).toNat 0 : List Int)).bind fun y178 => (if x10 < (y178.length : Int) then ((some (y178.set (x10 : Int).toNat (rd x8 x10) : List Int)).bind fun y181 => (if (wrap64 (x10 + 1)) < (y178.length : Int) then (if 0 ≤ (wrap64 (x10 + 1)) then ((some (y181.set ((wrap64 (x10 + 1)) : Int).toNat 1 : List Int)).bind fun y182 => (if x10 > 0 then (if x10 < (x177002.length : Int) then (if 0 ≤ (wrap64 (x10 - 1)) then (if (wrap64 (x10 - 1)) < (y178.length : Int) then (if x3.length < 5864062014805 then (impl_Jacobi_matrix.l0 k (x3 ++ [(y182.set ((wrap64 (x10 - 1)) : Int).toNat (rd x177002 x10))]) x8 x9 (wrap64 (x10 + 1)) x177000 x177001 x177002) else (none)) else (none)) else (none)) else (none)) else (if x3.length < 5864062014805 then (impl_Jacobi_matrix.l0 k (x3 ++ [y182]) x8 x9 (wrap64 (x10 + 1)) x177000 x177001 x177002) else (none)))) else (none)) else (if x10 > 0 then (if x10 < (x177002.length : Int) then (if 0 ≤ (wrap64 (x10 - 1)) then (if (wrap64 (x10 - 1)) < (y178.length : Int) then (if x3.length < 5864062014805 then (impl_Jacobi_matrix.l0 k (x3 ++ [(y181.set ((wrap64 (x10 - 1)) : Int).toNat (rd x177002 x10))]) x8 x9 (wrap64 (x10 + 1)) x177000 x177001 x177002) else (none)) else (none)) else (none)) else (none)) else (if x3.length < 5864062014805 then (impl_Jacobi_matrix.l0 k (x3 ++ [y181]) x8 x9 (wrap64 (x10 + 1)) x177000 x177001 x177002) else (none))))) else (none))) else (none)) else (none)) else (none)) else (none)) else (some x3)
def impl_Jacobi_matrix.f (k : Nat) (a0_0 : Int) (l0_1 : List Int) (l0_2 : List Int) : Option ((List (List Int))) := impl_Jacobi_matrix.l0 k ([] : List (List Int)) l0_1 (l0_1.length : Int) 0 a0_0 l0_1 l0_2
theorem impl_Jacobi_matrix.mono_l : ∀ k, (∀ y0 y1 y2 y3 y4 y5 y6, LeO (impl_Jacobi_matrix.l0 k y0 y1 y2 y3 y4 y5 y6) (impl_Jacobi_matrix.l0 (k + 1) y0 y1 y2 y3 y4 y5 y6))
 | 0 => fun _ _ _ _ _ _ _ r h => by simp [impl_Jacobi_matrix.l0] at h
 | k + 1 => by
  have ih0 := impl_Jacobi_matrix.mono_l k
  ·intro y0 y1 y2 y3 y4 y5 y6
   unfold impl_Jacobi_matrix.l0
   repeat' first
   | (with_reducible exact ih0 _ _ _ _ _ _ _)
   | (with_reducible exact LeO.refl _)
   | (with_reducible exact LeO.none _)
   | (with_reducible refine LeO.ite ?_ ?_)
   | (with_reducible refine LeO.bind ?_ (fun _ => ?_))
   | exact ih0 _ _ _ _ _ _ _
   | exact LeO.none _
   | refine LeO.ite ?_ ?_
   | refine LeO.bind ?_ (fun _ => ?_)
theorem impl_Jacobi_matrix.mono : ∀ a0 a1 a2 k, LeO (impl_Jacobi_matrix.f k a0 a1 a2) (impl_Jacobi_matrix.f (k + 1) a0 a1 a2) := by
 intro a0 a1 a2 k
 have ih0 := impl_Jacobi_matrix.mono_l k
 unfold impl_Jacobi_matrix.f
 repeat' first
   | (with_reducible exact ih0 _ _ _ _ _ _ _)
   | (with_reducible exact LeO.refl _)
   | (with_reducible exact LeO.none _)
   | (with_reducible refine LeO.ite ?_ ?_)
   | (with_reducible refine LeO.bind ?_ (fun _ => ?_))
   | exact ih0 _ _ _ _ _ _ _
   | exact LeO.none _
   | refine LeO.ite ?_ ?_
   | refine LeO.bind ?_ (fun _ => ?_)
set_option maxHeartbeats 8000000 in
set_option maxRecDepth 100000 in
theorem impl_Jacobi_matrix.calls (k : Nat) (a0_0 : Int) (A0_1 : Option Addr) (c0_1 : Nat) (l0_1 : List Int) (A0_2 : Option Addr) (c0_2 : Nat) (l0_2 : List Int) (r : List (List Int)) (w : World) (hr0_1 : Kd.C (Kd.int .i64) w A0_1 l0_1.length l0_1) (hc0_1 : l0_1.length ≤ c0_1) (hr0_2 : Kd.C (Kd.int .i64) w A0_2 l0_2.length l0_2) (hc0_2 : l0_2.length ≤ c0_2) (h : impl_Jacobi_matrix.f k a0_0 l0_1 l0_2 = some r) :
  Calls Try.prog 39 #[.agg #[.int .i64 a0_0, .slice A0_1 l0_1.length c0_1, .slice A0_2 l0_2.length c0_2]] w fun e w' => ∃ v0_ : Value, e = .returned (v0_) ∧ Kd.S (Kd.slice 2 (Kd.int .i64)) 22 w' w.heap.size (fun _ => True) v0_ r ∧ Below w.heap.size w w' := by
 have hu29 := Try.underlying29
 have HR0_1 := zA hr0_1
 have HC0_1 := zA hc0_1
 clear hr0_1 hc0_1
 have HR0_2 := zA hr0_2
 have HC0_2 := zA hc0_2
 clear hr0_2 hc0_2
 have HB := zA (Below.refl w.heap.size w)
 have H : (impl_Jacobi_matrix.l0 k ([] : List (List Int)) l0_1 (l0_1.length : Int) 0 a0_0 l0_1 l0_2) = some r := h
 clear h
 have H' := zA H
 clear H
 go_enter Try.func39, Try.ntmps39
 go_wp2_with (first | ((with_reducible refine gate_dst (N := 1) rfl ?_); refine bx 1 #[.int .i64 a0_0, .slice A0_1 l0_1.length c0_1, .slice A0_2 l0_2.length c0_2] 29 ?_; intro gb176 hg w2 hbox hb; have BK176 := zA (hbox); have GW176 := gq HB hg; have GE176 := gq HB hg; replace HB := xH HB hb; have := geI GE176; clear hb hbox hg; have hcz3_0 := bc BK176 0; have hcz3_1 := bc BK176 1; have hcz3_2 := bc BK176 2; have hfz3_0 := bf BK176 0; have hfz3_1 := bf BK176 1; have hfz3_2 := bf BK176 2))
 go_loopg [3, 10] k (fun kq v3 v10 w' => ∃ (x3_1 : List (List Int)) (x10_1 : Int), v10 = .int .i64 x10_1 ∧ Aside0 (impl_Jacobi_matrix.l0 kq x3_1 l0_1 (l0_1.length : Int) x10_1 a0_0 l0_1 l0_2 = some r) ∧ Aside0 (kq ≤ k) ∧ Aside0 (Kd.S (Kd.slice 2 (Kd.int .i64)) 22 w' w.heap.size (fun _ => True) v3 x3_1) ∧ Aside0 (w'.heap[gb176]? = some (.cells #[.int .i64 a0_0, (.slice A0_1 l0_1.length c0_1), (.slice A0_2 l0_2.length c0_2)] 29 (0, 0))) ∧ Aside0 (Below w.heap.size w w'))
 case atStart => exact ⟨(([] : List (List Int))), (0), (by first | rfl | (simp; done) | (simp [*]; done)), H', ⟨Nat.le_refl _⟩, ⟨by first | exact Kd.S_nil _ _ _ _ _ | exact Kd.N_nil _ _ _ _ _ | exact Kd.V_nil _ _ _ _ _ | exact Kd.Q_nil _ _ _ _ _ | exact Kd.R_nil _ _ _ _ _⟩, ⟨uB BK176.out⟩, ⟨uH HB.out⟩⟩
 case round =>
  clear H'
  (try clear p2);(try clear c3);(try clear hcz3_0);(try clear hcz3_1);(try clear hcz3_2);(try clear hfz3_0);(try clear hfz3_1);(try clear hfz3_2)
  obtain ⟨x3_1, x10_1, rfl, HA, HK1, HO_3, BK176, HB⟩ := hrel
  cases gk with
  | zero => exact absurd HA.out (by simp [impl_Jacobi_matrix.l0])
  | succ k1 =>
   have H := HA.out
   clear HA
   simp only [impl_Jacobi_matrix.l0] at H
   by_cases c4 : x10_1 < (l0_1.length : Int)
   rotate_left
   ·rw [if_neg c4] at H
    have c4b0 : decide (x10_1 < (l0_1.length : Int)) = false := decide_eq_false c4
    clear c4
    obtain rfl := Option.some.inj H
    go_wp2
    go_ret
    exact ⟨_, by first | rfl | (simp [errW_none, errW_some] <;> rfl) | (simp [*, errW_none, errW_some] <;> rfl), by (with_reducible repeat (first | apply Kd.S_alloc | apply Kd.S_drewN | apply Kd.S_drew)); exact HO_3.out, uH HB.out⟩

   rw [if_pos c4] at H
   have c4b0 : decide (x10_1 < (l0_1.length : Int)) = true := decide_eq_true c4
   clear c4
   by_cases c5 : 0 ≤ x10_1
   rotate_left
   ·rw [if_neg c5] at H
    exact absurd H (by simp)
   rw [if_pos c5] at H
   have c5b0 : decide (0 ≤ x10_1) = true := decide_eq_true c5
   clear c5
   by_cases c6 : x10_1 < (l0_1.length : Int)
   rotate_left
   ·rw [if_neg c6] at H
    exact absurd H (by simp)
   rw [if_pos c6] at H
   have c6b0 : decide (x10_1 < (l0_1.length : Int)) = true := decide_eq_true c6
   clear c6
   by_cases c7 : 0 ≤ (l0_1.length : Int)
   rotate_left
   ·rw [if_neg c7] at H
    exact absurd H (by simp)
   rw [if_pos c7] at H
   have c7b0 := eq_true c7
   have c7b1 : decide (0 ≤ (l0_1.length : Int)) = true := decide_eq_true c7
   clear c7
   by_cases c8 : ((l0_1.length : Int) : Int).toNat ≤ 35184372088832
   rotate_left
   ·rw [if_neg c8] at H
    exact absurd H (by simp)
   rw [if_pos c8] at H
   have c8b0 := eq_true c8
   have c8b1 : decide (((l0_1.length : Int) : Int).toNat ≤ 35184372088832) = true := decide_eq_true c8
   clear c8
   obtain ⟨y178, hy178⟩ : ∃ y_ : List Int, y_ = (List.replicate ((l0_1.length : Int) : Int).toNat 0) := ⟨_, rfl⟩
   replace H : (if x10_1 < (y178.length : Int) then ((some (y178.set (x10_1 : Int).toNat (rd l0_1 x10_1) : List Int)).bind fun y181 => (if (wrap64 (x10_1 + 1)) < (y178.length : Int) then (if 0 ≤ (wrap64 (x10_1 + 1)) then ((some (y181.set ((wrap64 (x10_1 + 1)) : Int).toNat 1 : List Int)).bind fun y182 => (if x10_1 > 0 then (if x10_1 < (l0_2.length : Int) then (if 0 ≤ (wrap64 (x10_1 - 1)) then (if (wrap64 (x10_1 - 1)) < (y178.length : Int) then (if x3_1.length < 5864062014805 then (impl_Jacobi_matrix.l0 k1 (x3_1 ++ [(y182.set ((wrap64 (x10_1 - 1)) : Int).toNat (rd l0_2 x10_1))]) l0_1 (l0_1.length : Int) (wrap64 (x10_1 + 1)) a0_0 l0_1 l0_2) else (none)) else (none)) else (none)) else (none)) else (if x3_1.length < 5864062014805 then (impl_Jacobi_matrix.l0 k1 (x3_1 ++ [y182]) l0_1 (l0_1.length : Int) (wrap64 (x10_1 + 1)) a0_0 l0_1 l0_2) else (none)))) else (none)) else (if x10_1 > 0 then (if x10_1 < (l0_2.length : Int) then (if 0 ≤ (wrap64 (x10_1 - 1)) then (if (wrap64 (x10_1 - 1)) < (y178.length : Int) then (if x3_1.length < 5864062014805 then (impl_Jacobi_matrix.l0 k1 (x3_1 ++ [(y181.set ((wrap64 (x10_1 - 1)) : Int).toNat (rd l0_2 x10_1))]) l0_1 (l0_1.length : Int) (wrap64 (x10_1 + 1)) a0_0 l0_1 l0_2) else (none)) else (none)) else (none)) else (none)) else (if x3_1.length < 5864062014805 then (impl_Jacobi_matrix.l0 k1 (x3_1 ++ [y181]) l0_1 (l0_1.length : Int) (wrap64 (x10_1 + 1)) a0_0 l0_1 l0_2) else (none))))) else (none)) = some r := by first | (rw [hy178]; exact H) | exact H
   have Ny178 := zA hy178
   clear hy178
   by_cases c9 : x10_1 < (y178.length : Int)
   rotate_left
   ·rw [if_neg c9] at H
    exact absurd H (by simp)
   rw [if_pos c9] at H
   have c9b0 : decide (x10_1 < (y178.length : Int)) = true := decide_eq_true c9
   clear c9
   obtain ⟨y181, hy181⟩ : ∃ y_ : List Int, y_ = (y178.set (x10_1 : Int).toNat (rd l0_1 x10_1)) := ⟨_, rfl⟩
   replace H : (if (wrap64 (x10_1 + 1)) < (y178.length : Int) then (if 0 ≤ (wrap64 (x10_1 + 1)) then ((some (y181.set ((wrap64 (x10_1 + 1)) : Int).toNat 1 : List Int)).bind fun y182 => (if x10_1 > 0 then (if x10_1 < (l0_2.length : Int) then (if 0 ≤ (wrap64 (x10_1 - 1)) then (if (wrap64 (x10_1 - 1)) < (y178.length : Int) then (if x3_1.length < 5864062014805 then (impl_Jacobi_matrix.l0 k1 (x3_1 ++ [(y182.set ((wrap64 (x10_1 - 1)) : Int).toNat (rd l0_2 x10_1))]) l0_1 (l0_1.length : Int) (wrap64 (x10_1 + 1)) a0_0 l0_1 l0_2) else (none)) else (none)) else (none)) else (none)) else (if x3_1.length < 5864062014805 then (impl_Jacobi_matrix.l0 k1 (x3_1 ++ [y182]) l0_1 (l0_1.length : Int) (wrap64 (x10_1 + 1)) a0_0 l0_1 l0_2) else (none)))) else (none)) else (if x10_1 > 0 then (if x10_1 < (l0_2.length : Int) then (if 0 ≤ (wrap64 (x10_1 - 1)) then (if (wrap64 (x10_1 - 1)) < (y178.length : Int) then (if x3_1.length < 5864062014805 then (impl_Jacobi_matrix.l0 k1 (x3_1 ++ [(y181.set ((wrap64 (x10_1 - 1)) : Int).toNat (rd l0_2 x10_1))]) l0_1 (l0_1.length : Int) (wrap64 (x10_1 + 1)) a0_0 l0_1 l0_2) else (none)) else (none)) else (none)) else (none)) else (if x3_1.length < 5864062014805 then (impl_Jacobi_matrix.l0 k1 (x3_1 ++ [y181]) l0_1 (l0_1.length : Int) (wrap64 (x10_1 + 1)) a0_0 l0_1 l0_2) else (none)))) = some r := by first | (rw [hy181]; exact H) | exact H
   have Ny181 := zA hy181
   clear hy181
   by_cases c11 : (wrap64 (x10_1 + 1)) < (y178.length : Int)
   rotate_left
   ·rw [if_neg c11] at H
    have c11b0 : decide ((wrap64 (x10_1 + 1)) < (y178.length : Int)) = false := decide_eq_false c11
    clear c11
    by_cases c42 : x10_1 > 0
    rotate_left
    ·rw [if_neg c42] at H
     have c42b0 : decide (0 < x10_1) = false := decide_eq_false c42
     clear c42
     by_cases c58 : x3_1.length < 5864062014805
     rotate_left
     ·rw [if_neg c58] at H
      exact absurd H (by simp)
     rw [if_pos c58] at H
     have LMc58 := zA c58
     clear c58
     obtain ⟨y196, hy196⟩ : ∃ y_ : List (List Int), y_ = (x3_1 ++ [y181]) := ⟨_, rfl⟩
     replace H : (impl_Jacobi_matrix.l0 k1 y196 l0_1 (l0_1.length : Int) (wrap64 (x10_1 + 1)) a0_0 l0_1 l0_2) = some r := by first | (rw [hy196]; exact H) | exact H
     have Ny196 := zA hy196
     clear hy196
     have H' := zA H
     clear H
     have p177 : 0 ≤ (x10_1 : Int) := of_decide_eq_true (by first | (with_reducible assumption) | assumption)
     have q177 : x10_1 < (l0_1.length : Int) := of_decide_eq_true (by first | (with_reducible assumption) | assumption)
     obtain ⟨ad177, e177, hx177_0⟩ := Kd.at_int HR0_1.out x10_1 p177 q177
     cases e177
     replace hx177_0 := hc HB hx177_0
     replace p177 := eq_true p177
     replace q177 := eq_true q177
     have hcz59_0 := bc BK176 0
     have hcz59_1 := bc BK176 1
     have hcz59_2 := bc BK176 2
     have hfz59_0 := bf BK176 0
     have hfz59_1 := bf BK176 1
     have hfz59_2 := bf BK176 2
     go_wp2_with (first | ((with_reducible refine gate_dst (N := 18) rfl ?_); refine Kd.R_make (Kd.int .i64) _ 2 rfl (N := 18) rfl 22 _ _ rfl (l0_1.length : Int) rfl rfl Try.underlying22 (.int .i64 0) 8 info2 rfl (by decide) (by omega) 0 (ok := fun _ => True) (okp := fun _ => True) rfl (fun _ hk => hk) trivial (of_decide_eq_true (by first | (with_reducible assumption) | assumption)) (Nat.le_trans (Nat.mul_le_mul_right _ (of_decide_eq_true (by first | (with_reducible assumption) | assumption) : (l0_1.length : Int).toNat ≤ 35184372088832)) (by omega)) (Below.refl _ _) (Nat.le_refl _) ?_; intro v179 w60 ho61 hb hg_ hnew_; clear hg_ hnew_; (first | rw [← Ny178.out] at ho61 | (simp only [Int.reduceToNat] at ho61; rw [← Ny178.out] at ho61)); replace HO_3 := zA (Kd.S_elder' (by (with_reducible repeat (first | apply Kd.S_alloc | apply Kd.S_drewN | apply Kd.S_drew)); exact HO_3.out) (Kd.R_base ho61) hb); have HO180 := zA (Kd.R_lower ho61 (below_size (uH HB.out))); replace BK176 := xB BK176 hb; replace HB := xH HB hb; clear hb ho61; have p10 : 0 ≤ (x10_1 : Int) := of_decide_eq_true (by first | (with_reducible assumption) | assumption); have q10 : (x10_1 : Int) < ((y178.length : Int) : Int) := of_decide_eq_true (by first | (with_reducible assumption) | assumption); obtain ⟨go10, co10, eo10, gb10, gl10, cl10, HG10⟩ := Kd.R_form HO180.out (by omega); (first | cases eo10 | (injection eo10 with ea_ en_ ec_; (first | subst ea_ | (injection ea_ with ea_; subst ea_)); subst ec_; clear en_)); have GB10 := zA gb10; have := geI GB10; have GG10 := zA HG10; clear gb10 gl10 HG10; obtain ⟨hx10_0, hf10_0⟩ := Kd.R_celln 0 HO180.out (x10_1 : Int) p10 q10; replace p10 := eq_true p10; replace q10 := eq_true q10; obtain ⟨hy62_, hz62_⟩ := Kd.R_celln 0 HO180.out (x10_1 : Int) (of_decide_eq_true (by first | (with_reducible assumption) | assumption)) (of_decide_eq_true (by first | (with_reducible assumption) | assumption)); have HP62 := Kd.R_putg HO180.out (x10_1 : Int) (rd l0_1 x10_1)) | ((with_reducible refine gate_store (t := 2) (p := 22) rfl ?_); refine store_event (t := 2) (p := 22) (v := ?vo_w63) (w1 := (w60.setCell ⟨go10, (x10_1 : Int).toNat, none⟩ (.int .i64 (rd l0_1 x10_1)))) ?hg ?ho ?hn ?hr ?_; (case ho => rfl); (case hg => rfl); (case hn => rfl); (case hr => first | (go_simp; done) | (go_simp; rfl)); intro w63 hw; have hg : w60.grownBy w63 (some go10) := (by rw [hw]; exact HP62.2); have hp_ : Kd.R (Kd.int .i64) 2 w63 w.heap.size (fun _ => True) (.slice (some ⟨go10, 0, none⟩) y178.length co10) y181 := (by rw [hw, Ny181.out]; exact HP62.1); clear HP62; replace HO_3 := zA (Kd.S_after (v := (.slice (some ⟨go10, 0, none⟩) y178.length co10)) (v1 := (.slice (some ⟨go10, 0, none⟩) y178.length co10)) (ok := (fun _ => True)) (by (with_reducible repeat (first | apply Kd.S_alloc | apply Kd.S_drewN | apply Kd.S_drew)); exact HO_3.out) hg (.inl rfl)); replace BK176 := zA (blk_grown (g := gb176) (o := .cells #[.int .i64 a0_0, .slice (some ad177) l0_1.length c0_1, .slice A0_2 l0_2.length c0_2] 29 (0, 0)) (uB BK176.out) hg (Kd.R_ne HO180.out BK176.out (by decide))); replace HO180 := zA (hp_); replace HB := zA ((by rw [hw]; exact below_set (HB.out) GB10.out : Below w.heap.size w w63)); clear hg hw hp_) | ((with_reducible refine gate_builtin (b := .append) (xs := #[.tmp 43, .tmp 45]) rfl ?_); at_builtin; refine Kd.S_append (Kd.slice 2 (Kd.int .i64)) (w0 := w) w.heap.size rfl (.tmp 43) (.tmp 45) 26 22 (.slice none 0 0) 24 rfl Try.underlying26 info22 rfl (by decide) (by omega) u3 x3_1 y181 [.slice (some ⟨go10, 0, none⟩) y178.length co10] (fun _ => True) (fun k_ => some k_ = (.slice (some ⟨go10, 0, none⟩) y178.length co10 : Value).ownBlock) rfl rfl ?aP (fun k_ hk_ => ((Kd.R_mono (ok' := fun k_ => ((fun _ => True)) k_ ∧ some k_ ≠ (u3 : Value).ownBlock) (Kd.R_apart' (HO180.out) (Kd.S_typed HO_3.out) (by decide)) (fun k_ hk => ⟨trivial, hk.2⟩))).1 k_ hk_.symm) ?aF ?aO ?aB ?aS ?aL ?_; (case aP => exact Kd.M_row (Kd.R_mono (Kd.R_tight rfl (Kd.R_mono (ok' := fun k_ => ((fun _ => True)) k_ ∧ some k_ ≠ (u3 : Value).ownBlock) (Kd.R_apart' (HO180.out) (Kd.S_typed HO_3.out) (by decide)) (fun k_ hk => ⟨trivial, hk.2⟩))) (fun _ h_ => h_))); (case aB => exact (uH HB.out)); (case aF => exact (fun _ _ => trivial)); (case aO => exact (by (with_reducible repeat (first | apply Kd.S_alloc | apply Kd.S_drewN | apply Kd.S_drew)); exact Kd.S_mono HO_3.out (fun k_ hk => ⟨trivial, fun e_ => hk.2 e_⟩))); (case aS => exact (below_size (uH HB.out))); (case aL => have := LMc58.out; omega); intro v197 w64 ho hb hg hat; rw [← Ny196.out] at ho; replace BK176 := zA (blk_grown (g := gb176) (o := .cells #[.int .i64 a0_0, .slice (some ad177) l0_1.length c0_1, .slice A0_2 l0_2.length c0_2] 29 (0, 0)) (uB BK176.out) hg (Kd.S_ne HO_3.out BK176.out (by decide))); replace HB := zA (hb); have HO198 := zA (ho); clear HO_3 HO180 ho hb hg hat))
     go_roundg k1
     case measure => have := HK1.out; omega
     case rel => exact ⟨(y196), (wrap64 (x10_1 + 1)), (by first | rfl | (simp; done) | (simp [*]; done)), H', ⟨by have := HK1.out; omega⟩, ⟨by (with_reducible repeat (first | apply Kd.S_alloc | apply Kd.S_drewN | apply Kd.S_drew)); exact HO198.out⟩, ⟨uB BK176.out⟩, ⟨uH HB.out⟩⟩
    rw [if_pos c42] at H
    have c42b0 : decide (0 < x10_1) = true := decide_eq_true c42
    clear c42
    by_cases c43 : x10_1 < (l0_2.length : Int)
    rotate_left
    ·rw [if_neg c43] at H
     exact absurd H (by simp)
    rw [if_pos c43] at H
    have c43b0 : decide (x10_1 < (l0_2.length : Int)) = true := decide_eq_true c43
    clear c43
    obtain ⟨ji44, hji44⟩ : ∃ j_ : Int, (wrap64 (x10_1 - 1)) = j_ := ⟨_, rfl⟩
    replace H : (if 0 ≤ (ji44) then (if (ji44) < (y178.length : Int) then (if x3_1.length < 5864062014805 then (impl_Jacobi_matrix.l0 k1 (x3_1 ++ [(y181.set ((ji44) : Int).toNat (rd l0_2 x10_1))]) l0_1 (l0_1.length : Int) (wrap64 (x10_1 + 1)) a0_0 l0_1 l0_2) else (none)) else (none)) else (none)) = some r := by first | (rw [hji44] at H; exact H) | (simp only [hji44] at H ⊢; exact H)
    have hji44w : (IntKind.i64.wrap (x10_1 - 1)) = ji44 := (i64_w _).trans hji44
    by_cases c45 : 0 ≤ (ji44)
    rotate_left
    ·rw [if_neg c45] at H
     exact absurd H (by simp)
    rw [if_pos c45] at H
    have c45b0 : decide (0 ≤ (ji44)) = true := decide_eq_true c45
    clear c45
    by_cases c46 : (ji44) < (y178.length : Int)
    rotate_left
    ·rw [if_neg c46] at H
     exact absurd H (by simp)
    rw [if_pos c46] at H
    have c46b0 : decide ((ji44) < (y178.length : Int)) = true := decide_eq_true c46
    clear c46
    obtain ⟨y192, hy192⟩ : ∃ y_ : List Int, y_ = (y181.set ((ji44) : Int).toNat (rd l0_2 x10_1)) := ⟨_, rfl⟩
    replace H : (if x3_1.length < 5864062014805 then (impl_Jacobi_matrix.l0 k1 (x3_1 ++ [y192]) l0_1 (l0_1.length : Int) (wrap64 (x10_1 + 1)) a0_0 l0_1 l0_2) else (none)) = some r := by first | (rw [hy192]; exact H) | exact H
    have Ny192 := zA hy192
    clear hy192
    by_cases c48 : x3_1.length < 5864062014805
    rotate_left
    ·rw [if_neg c48] at H
     exact absurd H (by simp)
    rw [if_pos c48] at H
    have LMc48 := zA c48
    clear c48
    obtain ⟨y193, hy193⟩ : ∃ y_ : List (List Int), y_ = (x3_1 ++ [y192]) := ⟨_, rfl⟩
    replace H : (impl_Jacobi_matrix.l0 k1 y193 l0_1 (l0_1.length : Int) (wrap64 (x10_1 + 1)) a0_0 l0_1 l0_2) = some r := by first | (rw [hy193]; exact H) | exact H
    have Ny193 := zA hy193
    clear hy193
    have H' := zA H
    clear H
    have p177 : 0 ≤ (x10_1 : Int) := of_decide_eq_true (by first | (with_reducible assumption) | assumption)
    have q177 : x10_1 < (l0_1.length : Int) := of_decide_eq_true (by first | (with_reducible assumption) | assumption)
    obtain ⟨ad177, e177, hx177_0⟩ := Kd.at_int HR0_1.out x10_1 p177 q177
    cases e177
    replace hx177_0 := hc HB hx177_0
    replace p177 := eq_true p177
    replace q177 := eq_true q177
    have hcz49_0 := bc BK176 0
    have hcz49_1 := bc BK176 1
    have hcz49_2 := bc BK176 2
    have hfz49_0 := bf BK176 0
    have hfz49_1 := bf BK176 1
    have hfz49_2 := bf BK176 2
    go_wp2_with (first | ((with_reducible refine gate_dst (N := 18) rfl ?_); refine Kd.R_make (Kd.int .i64) _ 2 rfl (N := 18) rfl 22 _ _ rfl (l0_1.length : Int) rfl rfl Try.underlying22 (.int .i64 0) 8 info2 rfl (by decide) (by omega) 0 (ok := fun _ => True) (okp := fun _ => True) rfl (fun _ hk => hk) trivial (of_decide_eq_true (by first | (with_reducible assumption) | assumption)) (Nat.le_trans (Nat.mul_le_mul_right _ (of_decide_eq_true (by first | (with_reducible assumption) | assumption) : (l0_1.length : Int).toNat ≤ 35184372088832)) (by omega)) (Below.refl _ _) (Nat.le_refl _) ?_; intro v179 w50 ho51 hb hg_ hnew_; clear hg_ hnew_; (first | rw [← Ny178.out] at ho51 | (simp only [Int.reduceToNat] at ho51; rw [← Ny178.out] at ho51)); replace HO_3 := zA (Kd.S_elder' (by (with_reducible repeat (first | apply Kd.S_alloc | apply Kd.S_drewN | apply Kd.S_drew)); exact HO_3.out) (Kd.R_base ho51) hb); have HO180 := zA (Kd.R_lower ho51 (below_size (uH HB.out))); replace BK176 := xB BK176 hb; replace HB := xH HB hb; clear hb ho51; have p10 : 0 ≤ (x10_1 : Int) := of_decide_eq_true (by first | (with_reducible assumption) | assumption); have q10 : (x10_1 : Int) < ((y178.length : Int) : Int) := of_decide_eq_true (by first | (with_reducible assumption) | assumption); obtain ⟨go10, co10, eo10, gb10, gl10, cl10, HG10⟩ := Kd.R_form HO180.out (by omega); (first | cases eo10 | (injection eo10 with ea_ en_ ec_; (first | subst ea_ | (injection ea_ with ea_; subst ea_)); subst ec_; clear en_)); have GB10 := zA gb10; have := geI GB10; have GG10 := zA HG10; clear gb10 gl10 HG10; obtain ⟨hx10_0, hf10_0⟩ := Kd.R_celln 0 HO180.out (x10_1 : Int) p10 q10; replace p10 := eq_true p10; replace q10 := eq_true q10; obtain ⟨hy52_, hz52_⟩ := Kd.R_celln 0 HO180.out (x10_1 : Int) (of_decide_eq_true (by first | (with_reducible assumption) | assumption)) (of_decide_eq_true (by first | (with_reducible assumption) | assumption)); have HP52 := Kd.R_putg HO180.out (x10_1 : Int) (rd l0_1 x10_1)) | ((with_reducible refine gate_store (t := 2) (p := 22) rfl ?_); refine store_event (t := 2) (p := 22) (v := ?vo_w53) (w1 := (w50.setCell ⟨go10, (x10_1 : Int).toNat, none⟩ (.int .i64 (rd l0_1 x10_1)))) ?hg ?ho ?hn ?hr ?_; (case ho => rfl); (case hg => rfl); (case hn => rfl); (case hr => first | (go_simp; done) | (go_simp; rfl)); intro w53 hw; have hg : w50.grownBy w53 (some go10) := (by rw [hw]; exact HP52.2); have hp_ : Kd.R (Kd.int .i64) 2 w53 w.heap.size (fun _ => True) (.slice (some ⟨go10, 0, none⟩) y178.length co10) y181 := (by rw [hw, Ny181.out]; exact HP52.1); clear HP52; replace HO_3 := zA (Kd.S_after (v := (.slice (some ⟨go10, 0, none⟩) y178.length co10)) (v1 := (.slice (some ⟨go10, 0, none⟩) y178.length co10)) (ok := (fun _ => True)) (by (with_reducible repeat (first | apply Kd.S_alloc | apply Kd.S_drewN | apply Kd.S_drew)); exact HO_3.out) hg (.inl rfl)); replace BK176 := zA (blk_grown (g := gb176) (o := .cells #[.int .i64 a0_0, .slice (some ad177) l0_1.length c0_1, .slice A0_2 l0_2.length c0_2] 29 (0, 0)) (uB BK176.out) hg (Kd.R_ne HO180.out BK176.out (by decide))); replace HO180 := zA (hp_); replace HB := zA ((by rw [hw]; exact below_set (HB.out) GB10.out : Below w.heap.size w w53)); clear hg hw hp_; have hcz54_0 := bc BK176 0; have hcz54_1 := bc BK176 1; have hcz54_2 := bc BK176 2; have hfz54_0 := bf BK176 0; have hfz54_1 := bf BK176 1; have hfz54_2 := bf BK176 2; have p191 : 0 ≤ (x10_1 : Int) := of_decide_eq_true (by first | (with_reducible assumption) | assumption); have q191 : x10_1 < (l0_2.length : Int) := of_decide_eq_true (by first | (with_reducible assumption) | assumption); obtain ⟨ad191, e191, hx191_0⟩ := Kd.at_int HR0_2.out x10_1 p191 q191; cases e191; replace hx191_0 := hc HB hx191_0; replace p191 := eq_true p191; replace q191 := eq_true q191; have p47 : 0 ≤ ((ji44) : Int) := of_decide_eq_true (by first | (with_reducible assumption) | assumption); have q47 : ((ji44) : Int) < ((y178.length : Int) : Int) := of_decide_eq_true (by first | (with_reducible assumption) | assumption); obtain ⟨hx47_0, hf47_0⟩ := Kd.R_celln 0 HO180.out ((ji44) : Int) p47 q47; replace p47 := eq_true p47; replace q47 := eq_true q47; obtain ⟨hy55_, hz55_⟩ := Kd.R_celln 0 HO180.out ((ji44) : Int) (of_decide_eq_true (by first | (with_reducible assumption) | assumption)) (of_decide_eq_true (by first | (with_reducible assumption) | assumption)); have HP55 := Kd.R_putg HO180.out ((ji44) : Int) (rd l0_2 x10_1)) | ((with_reducible refine gate_store (t := 2) (p := 42) rfl ?_); refine store_event (t := 2) (p := 42) (v := ?vo_w56) (w1 := (w53.setCell ⟨go10, ((ji44) : Int).toNat, none⟩ (.int .i64 (rd l0_2 x10_1)))) ?hg ?ho ?hn ?hr ?_; (case ho => rfl); (case hg => rfl); (case hn => rfl); (case hr => first | (go_simp; done) | (go_simp; rfl)); intro w56 hw; have hg : w53.grownBy w56 (some go10) := (by rw [hw]; exact HP55.2); have hp_ : Kd.R (Kd.int .i64) 2 w56 w.heap.size (fun _ => True) (.slice (some ⟨go10, 0, none⟩) y178.length co10) y192 := (by rw [hw, Ny192.out]; exact HP55.1); clear HP55; replace HO_3 := zA (Kd.S_after (v := (.slice (some ⟨go10, 0, none⟩) y178.length co10)) (v1 := (.slice (some ⟨go10, 0, none⟩) y178.length co10)) (ok := (fun _ => True)) (by (with_reducible repeat (first | apply Kd.S_alloc | apply Kd.S_drewN | apply Kd.S_drew)); exact HO_3.out) hg (.inl rfl)); replace BK176 := zA (blk_grown (g := gb176) (o := .cells #[.int .i64 a0_0, .slice (some ad177) l0_1.length c0_1, .slice (some ad191) l0_2.length c0_2] 29 (0, 0)) (uB BK176.out) hg (Kd.R_ne HO180.out BK176.out (by decide))); replace HO180 := zA (hp_); replace HB := zA ((by rw [hw]; exact below_set (HB.out) GB10.out : Below w.heap.size w w56)); clear hg hw hp_) | ((with_reducible refine gate_builtin (b := .append) (xs := #[.tmp 43, .tmp 45]) rfl ?_); at_builtin; refine Kd.S_append (Kd.slice 2 (Kd.int .i64)) (w0 := w) w.heap.size rfl (.tmp 43) (.tmp 45) 26 22 (.slice none 0 0) 24 rfl Try.underlying26 info22 rfl (by decide) (by omega) u3 x3_1 y192 [.slice (some ⟨go10, 0, none⟩) y178.length co10] (fun _ => True) (fun k_ => some k_ = (.slice (some ⟨go10, 0, none⟩) y178.length co10 : Value).ownBlock) rfl rfl ?aP (fun k_ hk_ => ((Kd.R_mono (ok' := fun k_ => ((fun _ => True)) k_ ∧ some k_ ≠ (u3 : Value).ownBlock) (Kd.R_apart' (HO180.out) (Kd.S_typed HO_3.out) (by decide)) (fun k_ hk => ⟨trivial, hk.2⟩))).1 k_ hk_.symm) ?aF ?aO ?aB ?aS ?aL ?_; (case aP => exact Kd.M_row (Kd.R_mono (Kd.R_tight rfl (Kd.R_mono (ok' := fun k_ => ((fun _ => True)) k_ ∧ some k_ ≠ (u3 : Value).ownBlock) (Kd.R_apart' (HO180.out) (Kd.S_typed HO_3.out) (by decide)) (fun k_ hk => ⟨trivial, hk.2⟩))) (fun _ h_ => h_))); (case aB => exact (uH HB.out)); (case aF => exact (fun _ _ => trivial)); (case aO => exact (by (with_reducible repeat (first | apply Kd.S_alloc | apply Kd.S_drewN | apply Kd.S_drew)); exact Kd.S_mono HO_3.out (fun k_ hk => ⟨trivial, fun e_ => hk.2 e_⟩))); (case aS => exact (below_size (uH HB.out))); (case aL => have := LMc48.out; omega); intro v194 w57 ho hb hg hat; rw [← Ny193.out] at ho; replace BK176 := zA (blk_grown (g := gb176) (o := .cells #[.int .i64 a0_0, .slice (some ad177) l0_1.length c0_1, .slice (some ad191) l0_2.length c0_2] 29 (0, 0)) (uB BK176.out) hg (Kd.S_ne HO_3.out BK176.out (by decide))); replace HB := zA (hb); have HO195 := zA (ho); clear HO_3 HO180 ho hb hg hat))
    go_roundg k1
    case measure => have := HK1.out; omega
    case rel => exact ⟨(y193), (wrap64 (x10_1 + 1)), (by first | rfl | (simp; done) | (simp [*]; done)), H', ⟨by have := HK1.out; omega⟩, ⟨by (with_reducible repeat (first | apply Kd.S_alloc | apply Kd.S_drewN | apply Kd.S_drew)); exact HO195.out⟩, ⟨uB BK176.out⟩, ⟨uH HB.out⟩⟩
   rw [if_pos c11] at H
   have c11b0 : decide ((wrap64 (x10_1 + 1)) < (y178.length : Int)) = true := decide_eq_true c11
   clear c11
   obtain ⟨ji12, hji12⟩ : ∃ j_ : Int, (wrap64 (x10_1 + 1)) = j_ := ⟨_, rfl⟩
   replace H : (if 0 ≤ (ji12) then ((some (y181.set ((ji12) : Int).toNat 1 : List Int)).bind fun y182 => (if x10_1 > 0 then (if x10_1 < (l0_2.length : Int) then (if 0 ≤ (wrap64 (x10_1 - 1)) then (if (wrap64 (x10_1 - 1)) < (y178.length : Int) then (if x3_1.length < 5864062014805 then (impl_Jacobi_matrix.l0 k1 (x3_1 ++ [(y182.set ((wrap64 (x10_1 - 1)) : Int).toNat (rd l0_2 x10_1))]) l0_1 (l0_1.length : Int) ji12 a0_0 l0_1 l0_2) else (none)) else (none)) else (none)) else (none)) else (if x3_1.length < 5864062014805 then (impl_Jacobi_matrix.l0 k1 (x3_1 ++ [y182]) l0_1 (l0_1.length : Int) ji12 a0_0 l0_1 l0_2) else (none)))) else (none)) = some r := by first | (rw [hji12] at H; exact H) | (simp only [hji12] at H ⊢; exact H)
   (try rw [hji12] at c11b0)
   have hji12w : (IntKind.i64.wrap (x10_1 + 1)) = ji12 := (i64_w _).trans hji12
   by_cases c13 : 0 ≤ (ji12)
   rotate_left
   ·rw [if_neg c13] at H
    exact absurd H (by simp)
   rw [if_pos c13] at H
   have c13b0 : decide (0 ≤ (ji12)) = true := decide_eq_true c13
   clear c13
   obtain ⟨y182, hy182⟩ : ∃ y_ : List Int, y_ = (y181.set ((ji12) : Int).toNat 1) := ⟨_, rfl⟩
   replace H : (if x10_1 > 0 then (if x10_1 < (l0_2.length : Int) then (if 0 ≤ (wrap64 (x10_1 - 1)) then (if (wrap64 (x10_1 - 1)) < (y178.length : Int) then (if x3_1.length < 5864062014805 then (impl_Jacobi_matrix.l0 k1 (x3_1 ++ [(y182.set ((wrap64 (x10_1 - 1)) : Int).toNat (rd l0_2 x10_1))]) l0_1 (l0_1.length : Int) ji12 a0_0 l0_1 l0_2) else (none)) else (none)) else (none)) else (none)) else (if x3_1.length < 5864062014805 then (impl_Jacobi_matrix.l0 k1 (x3_1 ++ [y182]) l0_1 (l0_1.length : Int) ji12 a0_0 l0_1 l0_2) else (none))) = some r := by first | (rw [hy182]; exact H) | exact H
   have Ny182 := zA hy182
   clear hy182
   by_cases c15 : x10_1 > 0
   rotate_left
   ·rw [if_neg c15] at H
    have c15b0 : decide (0 < x10_1) = false := decide_eq_false c15
    clear c15
    by_cases c33 : x3_1.length < 5864062014805
    rotate_left
    ·rw [if_neg c33] at H
     exact absurd H (by simp)
    rw [if_pos c33] at H
    have LMc33 := zA c33
    clear c33
    obtain ⟨y188, hy188⟩ : ∃ y_ : List (List Int), y_ = (x3_1 ++ [y182]) := ⟨_, rfl⟩
    replace H : (impl_Jacobi_matrix.l0 k1 y188 l0_1 (l0_1.length : Int) ji12 a0_0 l0_1 l0_2) = some r := by first | (rw [hy188]; exact H) | exact H
    have Ny188 := zA hy188
    clear hy188
    have H' := zA H
    clear H
    have p177 : 0 ≤ (x10_1 : Int) := of_decide_eq_true (by first | (with_reducible assumption) | assumption)
    have q177 : x10_1 < (l0_1.length : Int) := of_decide_eq_true (by first | (with_reducible assumption) | assumption)
    obtain ⟨ad177, e177, hx177_0⟩ := Kd.at_int HR0_1.out x10_1 p177 q177
    cases e177
    replace hx177_0 := hc HB hx177_0
    replace p177 := eq_true p177
    replace q177 := eq_true q177
    have hcz34_0 := bc BK176 0
    have hcz34_1 := bc BK176 1
    have hcz34_2 := bc BK176 2
    have hfz34_0 := bf BK176 0
    have hfz34_1 := bf BK176 1
    have hfz34_2 := bf BK176 2
    go_wp2_with (first | ((with_reducible refine gate_dst (N := 18) rfl ?_); refine Kd.R_make (Kd.int .i64) _ 2 rfl (N := 18) rfl 22 _ _ rfl (l0_1.length : Int) rfl rfl Try.underlying22 (.int .i64 0) 8 info2 rfl (by decide) (by omega) 0 (ok := fun _ => True) (okp := fun _ => True) rfl (fun _ hk => hk) trivial (of_decide_eq_true (by first | (with_reducible assumption) | assumption)) (Nat.le_trans (Nat.mul_le_mul_right _ (of_decide_eq_true (by first | (with_reducible assumption) | assumption) : (l0_1.length : Int).toNat ≤ 35184372088832)) (by omega)) (Below.refl _ _) (Nat.le_refl _) ?_; intro v179 w35 ho36 hb hg_ hnew_; clear hg_ hnew_; (first | rw [← Ny178.out] at ho36 | (simp only [Int.reduceToNat] at ho36; rw [← Ny178.out] at ho36)); replace HO_3 := zA (Kd.S_elder' (by (with_reducible repeat (first | apply Kd.S_alloc | apply Kd.S_drewN | apply Kd.S_drew)); exact HO_3.out) (Kd.R_base ho36) hb); have HO180 := zA (Kd.R_lower ho36 (below_size (uH HB.out))); replace BK176 := xB BK176 hb; replace HB := xH HB hb; clear hb ho36; have p10 : 0 ≤ (x10_1 : Int) := of_decide_eq_true (by first | (with_reducible assumption) | assumption); have q10 : (x10_1 : Int) < ((y178.length : Int) : Int) := of_decide_eq_true (by first | (with_reducible assumption) | assumption); obtain ⟨go10, co10, eo10, gb10, gl10, cl10, HG10⟩ := Kd.R_form HO180.out (by omega); (first | cases eo10 | (injection eo10 with ea_ en_ ec_; (first | subst ea_ | (injection ea_ with ea_; subst ea_)); subst ec_; clear en_)); have GB10 := zA gb10; have := geI GB10; have GG10 := zA HG10; clear gb10 gl10 HG10; obtain ⟨hx10_0, hf10_0⟩ := Kd.R_celln 0 HO180.out (x10_1 : Int) p10 q10; replace p10 := eq_true p10; replace q10 := eq_true q10; obtain ⟨hy37_, hz37_⟩ := Kd.R_celln 0 HO180.out (x10_1 : Int) (of_decide_eq_true (by first | (with_reducible assumption) | assumption)) (of_decide_eq_true (by first | (with_reducible assumption) | assumption)); have HP37 := Kd.R_putg HO180.out (x10_1 : Int) (rd l0_1 x10_1)) | ((with_reducible refine gate_store (t := 2) (p := 22) rfl ?_); refine store_event (t := 2) (p := 22) (v := ?vo_w38) (w1 := (w35.setCell ⟨go10, (x10_1 : Int).toNat, none⟩ (.int .i64 (rd l0_1 x10_1)))) ?hg ?ho ?hn ?hr ?_; (case ho => rfl); (case hg => rfl); (case hn => rfl); (case hr => first | (go_simp; done) | (go_simp; rfl)); intro w38 hw; have hg : w35.grownBy w38 (some go10) := (by rw [hw]; exact HP37.2); have hp_ : Kd.R (Kd.int .i64) 2 w38 w.heap.size (fun _ => True) (.slice (some ⟨go10, 0, none⟩) y178.length co10) y181 := (by rw [hw, Ny181.out]; exact HP37.1); clear HP37; replace HO_3 := zA (Kd.S_after (v := (.slice (some ⟨go10, 0, none⟩) y178.length co10)) (v1 := (.slice (some ⟨go10, 0, none⟩) y178.length co10)) (ok := (fun _ => True)) (by (with_reducible repeat (first | apply Kd.S_alloc | apply Kd.S_drewN | apply Kd.S_drew)); exact HO_3.out) hg (.inl rfl)); replace BK176 := zA (blk_grown (g := gb176) (o := .cells #[.int .i64 a0_0, .slice (some ad177) l0_1.length c0_1, .slice A0_2 l0_2.length c0_2] 29 (0, 0)) (uB BK176.out) hg (Kd.R_ne HO180.out BK176.out (by decide))); replace HO180 := zA (hp_); replace HB := zA ((by rw [hw]; exact below_set (HB.out) GB10.out : Below w.heap.size w w38)); clear hg hw hp_; have p14 : 0 ≤ ((ji12) : Int) := of_decide_eq_true (by first | (with_reducible assumption) | assumption); have q14 : ((ji12) : Int) < ((y178.length : Int) : Int) := of_decide_eq_true (by first | (with_reducible assumption) | assumption); obtain ⟨hx14_0, hf14_0⟩ := Kd.R_celln 0 HO180.out ((ji12) : Int) p14 q14; replace p14 := eq_true p14; replace q14 := eq_true q14; obtain ⟨hy39_, hz39_⟩ := Kd.R_celln 0 HO180.out ((ji12) : Int) (of_decide_eq_true (by first | (with_reducible assumption) | assumption)) (of_decide_eq_true (by first | (with_reducible assumption) | assumption)); have HP39 := Kd.R_putg HO180.out ((ji12) : Int) 1) | ((with_reducible refine gate_store (t := 2) (p := 31) rfl ?_); refine store_event (t := 2) (p := 31) (v := ?vo_w40) (w1 := (w38.setCell ⟨go10, ((ji12) : Int).toNat, none⟩ (.int .i64 1))) ?hg ?ho ?hn ?hr ?_; (case ho => rfl); (case hg => rfl); (case hn => rfl); (case hr => first | (go_simp; done) | (go_simp; rfl)); intro w40 hw; have hg : w38.grownBy w40 (some go10) := (by rw [hw]; exact HP39.2); have hp_ : Kd.R (Kd.int .i64) 2 w40 w.heap.size (fun _ => True) (.slice (some ⟨go10, 0, none⟩) y178.length co10) y182 := (by rw [hw, Ny182.out]; exact HP39.1); clear HP39; replace HO_3 := zA (Kd.S_after (v := (.slice (some ⟨go10, 0, none⟩) y178.length co10)) (v1 := (.slice (some ⟨go10, 0, none⟩) y178.length co10)) (ok := (fun _ => True)) (by (with_reducible repeat (first | apply Kd.S_alloc | apply Kd.S_drewN | apply Kd.S_drew)); exact HO_3.out) hg (.inl rfl)); replace BK176 := zA (blk_grown (g := gb176) (o := .cells #[.int .i64 a0_0, .slice (some ad177) l0_1.length c0_1, .slice A0_2 l0_2.length c0_2] 29 (0, 0)) (uB BK176.out) hg (Kd.R_ne HO180.out BK176.out (by decide))); replace HO180 := zA (hp_); replace HB := zA ((by rw [hw]; exact below_set (HB.out) GB10.out : Below w.heap.size w w40)); clear hg hw hp_) | ((with_reducible refine gate_builtin (b := .append) (xs := #[.tmp 43, .tmp 45]) rfl ?_); at_builtin; refine Kd.S_append (Kd.slice 2 (Kd.int .i64)) (w0 := w) w.heap.size rfl (.tmp 43) (.tmp 45) 26 22 (.slice none 0 0) 24 rfl Try.underlying26 info22 rfl (by decide) (by omega) u3 x3_1 y182 [.slice (some ⟨go10, 0, none⟩) y178.length co10] (fun _ => True) (fun k_ => some k_ = (.slice (some ⟨go10, 0, none⟩) y178.length co10 : Value).ownBlock) rfl rfl ?aP (fun k_ hk_ => ((Kd.R_mono (ok' := fun k_ => ((fun _ => True)) k_ ∧ some k_ ≠ (u3 : Value).ownBlock) (Kd.R_apart' (HO180.out) (Kd.S_typed HO_3.out) (by decide)) (fun k_ hk => ⟨trivial, hk.2⟩))).1 k_ hk_.symm) ?aF ?aO ?aB ?aS ?aL ?_; (case aP => exact Kd.M_row (Kd.R_mono (Kd.R_tight rfl (Kd.R_mono (ok' := fun k_ => ((fun _ => True)) k_ ∧ some k_ ≠ (u3 : Value).ownBlock) (Kd.R_apart' (HO180.out) (Kd.S_typed HO_3.out) (by decide)) (fun k_ hk => ⟨trivial, hk.2⟩))) (fun _ h_ => h_))); (case aB => exact (uH HB.out)); (case aF => exact (fun _ _ => trivial)); (case aO => exact (by (with_reducible repeat (first | apply Kd.S_alloc | apply Kd.S_drewN | apply Kd.S_drew)); exact Kd.S_mono HO_3.out (fun k_ hk => ⟨trivial, fun e_ => hk.2 e_⟩))); (case aS => exact (below_size (uH HB.out))); (case aL => have := LMc33.out; omega); intro v189 w41 ho hb hg hat; rw [← Ny188.out] at ho; replace BK176 := zA (blk_grown (g := gb176) (o := .cells #[.int .i64 a0_0, .slice (some ad177) l0_1.length c0_1, .slice A0_2 l0_2.length c0_2] 29 (0, 0)) (uB BK176.out) hg (Kd.S_ne HO_3.out BK176.out (by decide))); replace HB := zA (hb); have HO190 := zA (ho); clear HO_3 HO180 ho hb hg hat))
    go_roundg k1
    case measure => have := HK1.out; omega
    case rel => exact ⟨(y188), (ji12), (by first | rfl | (simp; done) | (simp only [← hji12] <;> (first | rfl | simp)) | (simp [*]; done)), H', ⟨by have := HK1.out; omega⟩, ⟨by (with_reducible repeat (first | apply Kd.S_alloc | apply Kd.S_drewN | apply Kd.S_drew)); exact HO190.out⟩, ⟨uB BK176.out⟩, ⟨uH HB.out⟩⟩
   rw [if_pos c15] at H
   have c15b0 : decide (0 < x10_1) = true := decide_eq_true c15
   clear c15
   by_cases c16 : x10_1 < (l0_2.length : Int)
   rotate_left
   ·rw [if_neg c16] at H
    exact absurd H (by simp)
   rw [if_pos c16] at H
   have c16b0 : decide (x10_1 < (l0_2.length : Int)) = true := decide_eq_true c16
   clear c16
   obtain ⟨ji17, hji17⟩ : ∃ j_ : Int, (wrap64 (x10_1 - 1)) = j_ := ⟨_, rfl⟩
   replace H : (if 0 ≤ (ji17) then (if (ji17) < (y178.length : Int) then (if x3_1.length < 5864062014805 then (impl_Jacobi_matrix.l0 k1 (x3_1 ++ [(y182.set ((ji17) : Int).toNat (rd l0_2 x10_1))]) l0_1 (l0_1.length : Int) ji12 a0_0 l0_1 l0_2) else (none)) else (none)) else (none)) = some r := by first | (rw [hji17] at H; exact H) | (simp only [hji17] at H ⊢; exact H)
   have hji17w : (IntKind.i64.wrap (x10_1 - 1)) = ji17 := (i64_w _).trans hji17
   by_cases c18 : 0 ≤ (ji17)
   rotate_left
   ·rw [if_neg c18] at H
    exact absurd H (by simp)
   rw [if_pos c18] at H
   have c18b0 : decide (0 ≤ (ji17)) = true := decide_eq_true c18
   clear c18
   by_cases c19 : (ji17) < (y178.length : Int)
   rotate_left
   ·rw [if_neg c19] at H
    exact absurd H (by simp)
   rw [if_pos c19] at H
   have c19b0 : decide ((ji17) < (y178.length : Int)) = true := decide_eq_true c19
   clear c19
   obtain ⟨y184, hy184⟩ : ∃ y_ : List Int, y_ = (y182.set ((ji17) : Int).toNat (rd l0_2 x10_1)) := ⟨_, rfl⟩
   replace H : (if x3_1.length < 5864062014805 then (impl_Jacobi_matrix.l0 k1 (x3_1 ++ [y184]) l0_1 (l0_1.length : Int) ji12 a0_0 l0_1 l0_2) else (none)) = some r := by first | (rw [hy184]; exact H) | exact H
   have Ny184 := zA hy184
   clear hy184
   by_cases c21 : x3_1.length < 5864062014805
   rotate_left
   ·rw [if_neg c21] at H
    exact absurd H (by simp)
   rw [if_pos c21] at H
   have LMc21 := zA c21
   clear c21
   obtain ⟨y185, hy185⟩ : ∃ y_ : List (List Int), y_ = (x3_1 ++ [y184]) := ⟨_, rfl⟩
   replace H : (impl_Jacobi_matrix.l0 k1 y185 l0_1 (l0_1.length : Int) ji12 a0_0 l0_1 l0_2) = some r := by first | (rw [hy185]; exact H) | exact H
   have Ny185 := zA hy185
   clear hy185
   have H' := zA H
   clear H
   have p177 : 0 ≤ (x10_1 : Int) := of_decide_eq_true (by first | (with_reducible assumption) | assumption)
   have q177 : x10_1 < (l0_1.length : Int) := of_decide_eq_true (by first | (with_reducible assumption) | assumption)
   obtain ⟨ad177, e177, hx177_0⟩ := Kd.at_int HR0_1.out x10_1 p177 q177
   cases e177
   replace hx177_0 := hc HB hx177_0
   replace p177 := eq_true p177
   replace q177 := eq_true q177
   have hcz22_0 := bc BK176 0
   have hcz22_1 := bc BK176 1
   have hcz22_2 := bc BK176 2
   have hfz22_0 := bf BK176 0
   have hfz22_1 := bf BK176 1
   have hfz22_2 := bf BK176 2
   go_wp2_with (first | ((with_reducible refine gate_dst (N := 18) rfl ?_); refine Kd.R_make (Kd.int .i64) _ 2 rfl (N := 18) rfl 22 _ _ rfl (l0_1.length : Int) rfl rfl Try.underlying22 (.int .i64 0) 8 info2 rfl (by decide) (by omega) 0 (ok := fun _ => True) (okp := fun _ => True) rfl (fun _ hk => hk) trivial (of_decide_eq_true (by first | (with_reducible assumption) | assumption)) (Nat.le_trans (Nat.mul_le_mul_right _ (of_decide_eq_true (by first | (with_reducible assumption) | assumption) : (l0_1.length : Int).toNat ≤ 35184372088832)) (by omega)) (Below.refl _ _) (Nat.le_refl _) ?_; intro v179 w23 ho24 hb hg_ hnew_; clear hg_ hnew_; (first | rw [← Ny178.out] at ho24 | (simp only [Int.reduceToNat] at ho24; rw [← Ny178.out] at ho24)); replace HO_3 := zA (Kd.S_elder' (by (with_reducible repeat (first | apply Kd.S_alloc | apply Kd.S_drewN | apply Kd.S_drew)); exact HO_3.out) (Kd.R_base ho24) hb); have HO180 := zA (Kd.R_lower ho24 (below_size (uH HB.out))); replace BK176 := xB BK176 hb; replace HB := xH HB hb; clear hb ho24; have p10 : 0 ≤ (x10_1 : Int) := of_decide_eq_true (by first | (with_reducible assumption) | assumption); have q10 : (x10_1 : Int) < ((y178.length : Int) : Int) := of_decide_eq_true (by first | (with_reducible assumption) | assumption); obtain ⟨go10, co10, eo10, gb10, gl10, cl10, HG10⟩ := Kd.R_form HO180.out (by omega); (first | cases eo10 | (injection eo10 with ea_ en_ ec_; (first | subst ea_ | (injection ea_ with ea_; subst ea_)); subst ec_; clear en_)); have GB10 := zA gb10; have := geI GB10; have GG10 := zA HG10; clear gb10 gl10 HG10; obtain ⟨hx10_0, hf10_0⟩ := Kd.R_celln 0 HO180.out (x10_1 : Int) p10 q10; replace p10 := eq_true p10; replace q10 := eq_true q10; obtain ⟨hy25_, hz25_⟩ := Kd.R_celln 0 HO180.out (x10_1 : Int) (of_decide_eq_true (by first | (with_reducible assumption) | assumption)) (of_decide_eq_true (by first | (with_reducible assumption) | assumption)); have HP25 := Kd.R_putg HO180.out (x10_1 : Int) (rd l0_1 x10_1)) | ((with_reducible refine gate_store (t := 2) (p := 22) rfl ?_); refine store_event (t := 2) (p := 22) (v := ?vo_w26) (w1 := (w23.setCell ⟨go10, (x10_1 : Int).toNat, none⟩ (.int .i64 (rd l0_1 x10_1)))) ?hg ?ho ?hn ?hr ?_; (case ho => rfl); (case hg => rfl); (case hn => rfl); (case hr => first | (go_simp; done) | (go_simp; rfl)); intro w26 hw; have hg : w23.grownBy w26 (some go10) := (by rw [hw]; exact HP25.2); have hp_ : Kd.R (Kd.int .i64) 2 w26 w.heap.size (fun _ => True) (.slice (some ⟨go10, 0, none⟩) y178.length co10) y181 := (by rw [hw, Ny181.out]; exact HP25.1); clear HP25; replace HO_3 := zA (Kd.S_after (v := (.slice (some ⟨go10, 0, none⟩) y178.length co10)) (v1 := (.slice (some ⟨go10, 0, none⟩) y178.length co10)) (ok := (fun _ => True)) (by (with_reducible repeat (first | apply Kd.S_alloc | apply Kd.S_drewN | apply Kd.S_drew)); exact HO_3.out) hg (.inl rfl)); replace BK176 := zA (blk_grown (g := gb176) (o := .cells #[.int .i64 a0_0, .slice (some ad177) l0_1.length c0_1, .slice A0_2 l0_2.length c0_2] 29 (0, 0)) (uB BK176.out) hg (Kd.R_ne HO180.out BK176.out (by decide))); replace HO180 := zA (hp_); replace HB := zA ((by rw [hw]; exact below_set (HB.out) GB10.out : Below w.heap.size w w26)); clear hg hw hp_; have p14 : 0 ≤ ((ji12) : Int) := of_decide_eq_true (by first | (with_reducible assumption) | assumption); have q14 : ((ji12) : Int) < ((y178.length : Int) : Int) := of_decide_eq_true (by first | (with_reducible assumption) | assumption); obtain ⟨hx14_0, hf14_0⟩ := Kd.R_celln 0 HO180.out ((ji12) : Int) p14 q14; replace p14 := eq_true p14; replace q14 := eq_true q14; obtain ⟨hy27_, hz27_⟩ := Kd.R_celln 0 HO180.out ((ji12) : Int) (of_decide_eq_true (by first | (with_reducible assumption) | assumption)) (of_decide_eq_true (by first | (with_reducible assumption) | assumption)); have HP27 := Kd.R_putg HO180.out ((ji12) : Int) 1) | ((with_reducible refine gate_store (t := 2) (p := 31) rfl ?_); refine store_event (t := 2) (p := 31) (v := ?vo_w28) (w1 := (w26.setCell ⟨go10, ((ji12) : Int).toNat, none⟩ (.int .i64 1))) ?hg ?ho ?hn ?hr ?_; (case ho => rfl); (case hg => rfl); (case hn => rfl); (case hr => first | (go_simp; done) | (go_simp; rfl)); intro w28 hw; have hg : w26.grownBy w28 (some go10) := (by rw [hw]; exact HP27.2); have hp_ : Kd.R (Kd.int .i64) 2 w28 w.heap.size (fun _ => True) (.slice (some ⟨go10, 0, none⟩) y178.length co10) y182 := (by rw [hw, Ny182.out]; exact HP27.1); clear HP27; replace HO_3 := zA (Kd.S_after (v := (.slice (some ⟨go10, 0, none⟩) y178.length co10)) (v1 := (.slice (some ⟨go10, 0, none⟩) y178.length co10)) (ok := (fun _ => True)) (by (with_reducible repeat (first | apply Kd.S_alloc | apply Kd.S_drewN | apply Kd.S_drew)); exact HO_3.out) hg (.inl rfl)); replace BK176 := zA (blk_grown (g := gb176) (o := .cells #[.int .i64 a0_0, .slice (some ad177) l0_1.length c0_1, .slice A0_2 l0_2.length c0_2] 29 (0, 0)) (uB BK176.out) hg (Kd.R_ne HO180.out BK176.out (by decide))); replace HO180 := zA (hp_); replace HB := zA ((by rw [hw]; exact below_set (HB.out) GB10.out : Below w.heap.size w w28)); clear hg hw hp_; have hcz29_0 := bc BK176 0; have hcz29_1 := bc BK176 1; have hcz29_2 := bc BK176 2; have hfz29_0 := bf BK176 0; have hfz29_1 := bf BK176 1; have hfz29_2 := bf BK176 2; have p183 : 0 ≤ (x10_1 : Int) := of_decide_eq_true (by first | (with_reducible assumption) | assumption); have q183 : x10_1 < (l0_2.length : Int) := of_decide_eq_true (by first | (with_reducible assumption) | assumption); obtain ⟨ad183, e183, hx183_0⟩ := Kd.at_int HR0_2.out x10_1 p183 q183; cases e183; replace hx183_0 := hc HB hx183_0; replace p183 := eq_true p183; replace q183 := eq_true q183; have p20 : 0 ≤ ((ji17) : Int) := of_decide_eq_true (by first | (with_reducible assumption) | assumption); have q20 : ((ji17) : Int) < ((y178.length : Int) : Int) := of_decide_eq_true (by first | (with_reducible assumption) | assumption); obtain ⟨hx20_0, hf20_0⟩ := Kd.R_celln 0 HO180.out ((ji17) : Int) p20 q20; replace p20 := eq_true p20; replace q20 := eq_true q20; obtain ⟨hy30_, hz30_⟩ := Kd.R_celln 0 HO180.out ((ji17) : Int) (of_decide_eq_true (by first | (with_reducible assumption) | assumption)) (of_decide_eq_true (by first | (with_reducible assumption) | assumption)); have HP30 := Kd.R_putg HO180.out ((ji17) : Int) (rd l0_2 x10_1)) | ((with_reducible refine gate_store (t := 2) (p := 42) rfl ?_); refine store_event (t := 2) (p := 42) (v := ?vo_w31) (w1 := (w28.setCell ⟨go10, ((ji17) : Int).toNat, none⟩ (.int .i64 (rd l0_2 x10_1)))) ?hg ?ho ?hn ?hr ?_; (case ho => rfl); (case hg => rfl); (case hn => rfl); (case hr => first | (go_simp; done) | (go_simp; rfl)); intro w31 hw; have hg : w28.grownBy w31 (some go10) := (by rw [hw]; exact HP30.2); have hp_ : Kd.R (Kd.int .i64) 2 w31 w.heap.size (fun _ => True) (.slice (some ⟨go10, 0, none⟩) y178.length co10) y184 := (by rw [hw, Ny184.out]; exact HP30.1); clear HP30; replace HO_3 := zA (Kd.S_after (v := (.slice (some ⟨go10, 0, none⟩) y178.length co10)) (v1 := (.slice (some ⟨go10, 0, none⟩) y178.length co10)) (ok := (fun _ => True)) (by (with_reducible repeat (first | apply Kd.S_alloc | apply Kd.S_drewN | apply Kd.S_drew)); exact HO_3.out) hg (.inl rfl)); replace BK176 := zA (blk_grown (g := gb176) (o := .cells #[.int .i64 a0_0, .slice (some ad177) l0_1.length c0_1, .slice (some ad183) l0_2.length c0_2] 29 (0, 0)) (uB BK176.out) hg (Kd.R_ne HO180.out BK176.out (by decide))); replace HO180 := zA (hp_); replace HB := zA ((by rw [hw]; exact below_set (HB.out) GB10.out : Below w.heap.size w w31)); clear hg hw hp_) | ((with_reducible refine gate_builtin (b := .append) (xs := #[.tmp 43, .tmp 45]) rfl ?_); at_builtin; refine Kd.S_append (Kd.slice 2 (Kd.int .i64)) (w0 := w) w.heap.size rfl (.tmp 43) (.tmp 45) 26 22 (.slice none 0 0) 24 rfl Try.underlying26 info22 rfl (by decide) (by omega) u3 x3_1 y184 [.slice (some ⟨go10, 0, none⟩) y178.length co10] (fun _ => True) (fun k_ => some k_ = (.slice (some ⟨go10, 0, none⟩) y178.length co10 : Value).ownBlock) rfl rfl ?aP (fun k_ hk_ => ((Kd.R_mono (ok' := fun k_ => ((fun _ => True)) k_ ∧ some k_ ≠ (u3 : Value).ownBlock) (Kd.R_apart' (HO180.out) (Kd.S_typed HO_3.out) (by decide)) (fun k_ hk => ⟨trivial, hk.2⟩))).1 k_ hk_.symm) ?aF ?aO ?aB ?aS ?aL ?_; (case aP => exact Kd.M_row (Kd.R_mono (Kd.R_tight rfl (Kd.R_mono (ok' := fun k_ => ((fun _ => True)) k_ ∧ some k_ ≠ (u3 : Value).ownBlock) (Kd.R_apart' (HO180.out) (Kd.S_typed HO_3.out) (by decide)) (fun k_ hk => ⟨trivial, hk.2⟩))) (fun _ h_ => h_))); (case aB => exact (uH HB.out)); (case aF => exact (fun _ _ => trivial)); (case aO => exact (by (with_reducible repeat (first | apply Kd.S_alloc | apply Kd.S_drewN | apply Kd.S_drew)); exact Kd.S_mono HO_3.out (fun k_ hk => ⟨trivial, fun e_ => hk.2 e_⟩))); (case aS => exact (below_size (uH HB.out))); (case aL => have := LMc21.out; omega); intro v186 w32 ho hb hg hat; rw [← Ny185.out] at ho; replace BK176 := zA (blk_grown (g := gb176) (o := .cells #[.int .i64 a0_0, .slice (some ad177) l0_1.length c0_1, .slice (some ad183) l0_2.length c0_2] 29 (0, 0)) (uB BK176.out) hg (Kd.S_ne HO_3.out BK176.out (by decide))); replace HB := zA (hb); have HO187 := zA (ho); clear HO_3 HO180 ho hb hg hat))
   go_roundg k1
   case measure => have := HK1.out; omega
   case rel => exact ⟨(y185), (ji12), (by first | rfl | (simp; done) | (simp only [← hji12] <;> (first | rfl | simp)) | (simp [*]; done)), H', ⟨by have := HK1.out; omega⟩, ⟨by (with_reducible repeat (first | apply Kd.S_alloc | apply Kd.S_drewN | apply Kd.S_drew)); exact HO187.out⟩, ⟨uB BK176.out⟩, ⟨uH HB.out⟩⟩
end Go.Proofs.Ytjdannndpfkadaa.Pr
