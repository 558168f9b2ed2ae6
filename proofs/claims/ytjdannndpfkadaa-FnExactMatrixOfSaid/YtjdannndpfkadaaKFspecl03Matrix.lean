/- Printed by a program of this session out of the translation: what these functions of the program compute, under the conditions that each theorem names. -/
import Derived.Test.YtjdannndpfkadaaKMatrixOf1
namespace Go.Proofs.Ytjdannndpfkadaa.Pr
open Go.RowKit Go.Proofs.YtjdannndpfkadaaW.PrintWords Go.Proofs.YtjdannndpfkadaaW.PrintLast Go.Proofs.YtjdannndpfkadaaW.PrintMore
attribute [local go_sem] max2_int min2_int max_two min_two max_three min_three max_four min_four   -- for this text's walks alone
set_option linter.unusedVariables false
set_option linter.unusedSimpArgs false

/-! ### spec_l03Matrix: function 36 -/
def spec_l03Matrix.l0 : Nat → Int → List (List Int) → Int → Int → List Int → List Int → Option ((List (List Int)))
 | 0, _, _, _, _, _, _ => none
 | k + 1, x3, x4, x5, x112000, x112001, x112002 => if x5 < x3 then (if 0 ≤ x3 then (if (x3 : Int).toNat ≤ 35184372088832 then ((some (List.replicate (x3 : Int).toNat 0 : List Int)).bind fun y115 => (if 0 ≤ x5 then (if x5 < (x112001.length : Int) then (if x5 < (y115.length : Int) then ((some (y115.set (x5 : Int).toNat (rd x112001 x5) : List Int)).bind fun y119 => (if x5 > 0 then (if x5 < (x112002.length : Int) then (if 0 ≤ (wrap64 (x5 - 1)) then (if (wrap64 (x5 - 1)) < (y115.length : Int) then ((some (y119.set ((wrap64 (x5 - 1)) : Int).toNat (rd x112002 x5) : List Int)).bind fun y121 => (if (wrap64 (x5 + 1)) < x3 then (if 0 ≤ (wrap64 (x5 + 1)) then (if (wrap64 (x5 + 1)) < (y115.length : Int) then (if x4.length < 5864062014805 then (spec_l03Matrix.l0 k x3 (x4 ++ [(y121.set ((wrap64 (x5 + 1)) : Int).toNat 1)]) (wrap64 (x5 + 1)) x112000 x112001 x112002) else (none)) else (none)) else (none)) else (if x4.length < 5864062014805 then (spec_l03Matrix.l0 k x3 (x4 ++ [y121]) (wrap64 (x5 + 1)) x112000 x112001 x112002) else (none)))) else (none)) else (none)) else (none)) else (if (wrap64 (x5 + 1)) < x3 then (if 0 ≤ (wrap64 (x5 + 1)) then (if (wrap64 (x5 + 1)) < (y115.length : Int) then (if x4.length < 5864062014805 then (spec_l03Matrix.l0 k x3 (x4 ++ [(y119.set ((wrap64 (x5 + 1)) : Int).toNat 1)]) (wrap64 (x5 + 1)) x112000 x112001 x112002) else (none)) else (none)) else (none)) else (if x4.length < 5864062014805 then (spec_l03Matrix.l0 k x3 (x4 ++ [y119]) (wrap64 (x5 + 1)) x112000 x112001 x112002) else (none))))) else (none)) else (none)) else (none))) else (none)) else (none)) else (some x4)
def spec_l03Matrix.f (k : Nat) (a0_0 : Int) (l0_1 : List Int) (l0_2 : List Int) : Option ((List (List Int))) := spec_l03Matrix.l0 k (l0_1.length : Int) (([] : List (List Int))) 0 a0_0 l0_1 l0_2
theorem spec_l03Matrix.mono_l : ∀ k, (∀ y0 y1 y2 y3 y4 y5, LeO (spec_l03Matrix.l0 k y0 y1 y2 y3 y4 y5) (spec_l03Matrix.l0 (k + 1) y0 y1 y2 y3 y4 y5))
 | 0 => fun _ _ _ _ _ _ r h => by simp [spec_l03Matrix.l0] at h
 | k + 1 => by
  have ih0 := spec_l03Matrix.mono_l k
  ·intro y0 y1 y2 y3 y4 y5
   unfold spec_l03Matrix.l0
   repeat' first
   | (with_reducible exact ih0 _ _ _ _ _ _)
   | (with_reducible exact LeO.refl _)
   | (with_reducible exact LeO.none _)
   | (with_reducible refine LeO.ite ?_ ?_)
   | (with_reducible refine LeO.bind ?_ (fun _ => ?_))
   | exact ih0 _ _ _ _ _ _
   | exact LeO.none _
   | refine LeO.ite ?_ ?_
   | refine LeO.bind ?_ (fun _ => ?_)
theorem spec_l03Matrix.mono : ∀ a0 a1 a2 k, LeO (spec_l03Matrix.f k a0 a1 a2) (spec_l03Matrix.f (k + 1) a0 a1 a2) := by
 intro a0 a1 a2 k
 have ih0 := spec_l03Matrix.mono_l k
 unfold spec_l03Matrix.f
 repeat' first
   | (with_reducible exact ih0 _ _ _ _ _ _)
   | (with_reducible exact LeO.refl _)
   | (with_reducible exact LeO.none _)
   | (with_reducible refine LeO.ite ?_ ?_)
   | (with_reducible refine LeO.bind ?_ (fun _ => ?_))
   | exact ih0 _ _ _ _ _ _
   | exact LeO.none _
   | refine LeO.ite ?_ ?_
   | refine LeO.bind ?_ (fun _ => ?_)
set_option maxHeartbeats 8000000 in
set_option maxRecDepth 100000 in
theorem spec_l03Matrix.calls (k : Nat) (a0_0 : Int) (A0_1 : Option Addr) (c0_1 : Nat) (l0_1 : List Int) (A0_2 : Option Addr) (c0_2 : Nat) (l0_2 : List Int) (r : List (List Int)) (w : World) (hr0_1 : Kd.C (Kd.int .i64) w A0_1 l0_1.length l0_1) (hc0_1 : l0_1.length ≤ c0_1) (hr0_2 : Kd.C (Kd.int .i64) w A0_2 l0_2.length l0_2) (hc0_2 : l0_2.length ≤ c0_2) (h : spec_l03Matrix.f k a0_0 l0_1 l0_2 = some r) :
  Calls Try.prog 36 #[.agg #[.int .i64 a0_0, .slice A0_1 l0_1.length c0_1, .slice A0_2 l0_2.length c0_2]] w fun e w' => ∃ v0_ : Value, e = .returned (v0_) ∧ Kd.S (Kd.slice 2 (Kd.int .i64)) 22 w' w.heap.size (fun _ => True) v0_ r ∧ Below w.heap.size w w' := by
 have hu29 := Try.underlying29
 have HR0_1 := zA hr0_1
 have HC0_1 := zA hc0_1
 clear hr0_1 hc0_1
 have HR0_2 := zA hr0_2
 have HC0_2 := zA hc0_2
 clear hr0_2 hc0_2
 have HB := zA (Below.refl w.heap.size w)
 have H : (spec_l03Matrix.l0 k (l0_1.length : Int) (([] : List (List Int))) 0 a0_0 l0_1 l0_2) = some r := h
 clear h
 obtain ⟨y112, hy112⟩ : ∃ y_ : List (List Int), y_ = (([] : List (List Int))) := ⟨_, rfl⟩
 replace H : (spec_l03Matrix.l0 k (l0_1.length : Int) y112 0 a0_0 l0_1 l0_2) = some r := by first | (rw [hy112]; exact H) | exact H
 have Ny112 := zA hy112
 clear hy112
 have H' := zA H
 clear H
 go_enter Try.func36, Try.ntmps36
 go_wp2_with (first | ((with_reducible refine gate_dst (N := 1) rfl ?_); refine bx 1 #[.int .i64 a0_0, .slice A0_1 l0_1.length c0_1, .slice A0_2 l0_2.length c0_2] 29 ?_; intro gb111 hg w2 hbox hb; have BK111 := zA (hbox); have GW111 := gq HB hg; have GE111 := gq HB hg; replace HB := xH HB hb; have := geI GE111; clear hb hbox hg; have hcz3_0 := bc BK111 0; have hcz3_1 := bc BK111 1; have hcz3_2 := bc BK111 2; have hfz3_0 := bf BK111 0; have hfz3_1 := bf BK111 1; have hfz3_2 := bf BK111 2) | ((with_reducible refine gate_dst (N := 10) rfl ?_); refine Kd.S_lit (Kd.slice 2 (Kd.int .i64)) _ 22 ?hg (N := 10) ?hd (xs := ([] : List (List Int))) (inner := []) (ok := fun _ => True) (okp := fun _ => True) ?hr ?hp (fun _ hk => hk) trivial (Below.refl _ _) (Nat.le_refl _) (by simp) ?_; (case hd => rfl); (case hg => rfl); (case hr => first | (go_simp; done) | (go_simp; rfl)); (case hp => exact (Reps.none _ _)); intro v113 w4 ho5 hb hg_ hnew_; clear hg_ hnew_; (first | rw [← Ny112.out] at ho5 | (simp only [Int.reduceToNat] at ho5; rw [← Ny112.out] at ho5)); have HO114 := zA (Kd.S_lower ho5 (below_size (uH HB.out))); replace BK111 := xB BK111 hb; replace HB := xH HB hb; clear hb ho5))
 go_loopg [4, 5] k (fun kq v4 v5 w' => ∃ (x4_1 : List (List Int)) (x5_1 : Int), v5 = .int .i64 x5_1 ∧ Aside0 (spec_l03Matrix.l0 kq (l0_1.length : Int) x4_1 x5_1 a0_0 l0_1 l0_2 = some r) ∧ Aside0 (kq ≤ k) ∧ Aside0 (Kd.S (Kd.slice 2 (Kd.int .i64)) 22 w' w.heap.size (fun _ => True) v4 x4_1) ∧ Aside0 (w'.heap[gb111]? = some (.cells #[.int .i64 a0_0, (.slice A0_1 l0_1.length c0_1), (.slice A0_2 l0_2.length c0_2)] 29 (0, 0))) ∧ Aside0 (Below w.heap.size w w'))
 case atStart => exact ⟨(y112), (0), (by first | rfl | (simp; done) | (simp [*]; done)), H', ⟨Nat.le_refl _⟩, ⟨by (with_reducible repeat (first | apply Kd.S_alloc | apply Kd.S_drewN | apply Kd.S_drew)); exact HO114.out⟩, ⟨uB BK111.out⟩, ⟨uH HB.out⟩⟩
 case round =>
  clear H'
  (try clear p2);(try clear c3);(try clear hcz3_0);(try clear hcz3_1);(try clear hcz3_2);(try clear hfz3_0);(try clear hfz3_1);(try clear hfz3_2)
  obtain ⟨x4_1, x5_1, rfl, HA, HK1, HO_4, BK111, HB⟩ := hrel
  cases gk with
  | zero => exact absurd HA.out (by simp [spec_l03Matrix.l0])
  | succ k1 =>
   have H := HA.out
   clear HA
   simp only [spec_l03Matrix.l0] at H
   by_cases c6 : x5_1 < (l0_1.length : Int)
   rotate_left
   ·rw [if_neg c6] at H
    have c6b0 : decide (x5_1 < (l0_1.length : Int)) = false := decide_eq_false c6
    clear c6
    obtain rfl := Option.some.inj H
    go_wp2
    go_ret
    exact ⟨_, by first | rfl | (simp [errW_none, errW_some] <;> rfl) | (simp [*, errW_none, errW_some] <;> rfl), by (with_reducible repeat (first | apply Kd.S_alloc | apply Kd.S_drewN | apply Kd.S_drew)); exact HO_4.out, uH HB.out⟩

   rw [if_pos c6] at H
   have c6b0 : decide (x5_1 < (l0_1.length : Int)) = true := decide_eq_true c6
   clear c6
   by_cases c7 : 0 ≤ (l0_1.length : Int)
   rotate_left
   ·rw [if_neg c7] at H
    exact absurd H (by simp)
   rw [if_pos c7] at H
   have c7b0 := eq_true c7
   have c7b1 : decide (0 ≤ (l0_1.length : Int)) = true := decide_eq_true c7
   clear c7
   by_cases c8 : ((l0_1.length : Int) : Int).toNat ≤ 35184372088832
   rotate_left
   ·rw [if_neg c8] at H
    exact absurd H (by simp)
   rw [if_pos c8] at H
   have c8b0 := eq_true c8
   have c8b1 : decide (((l0_1.length : Int) : Int).toNat ≤ 35184372088832) = true := decide_eq_true c8
   clear c8
   obtain ⟨y115, hy115⟩ : ∃ y_ : List Int, y_ = (List.replicate ((l0_1.length : Int) : Int).toNat 0) := ⟨_, rfl⟩
   replace H : (if 0 ≤ x5_1 then (if x5_1 < (l0_1.length : Int) then (if x5_1 < (y115.length : Int) then ((some (y115.set (x5_1 : Int).toNat (rd l0_1 x5_1) : List Int)).bind fun y119 => (if x5_1 > 0 then (if x5_1 < (l0_2.length : Int) then (if 0 ≤ (wrap64 (x5_1 - 1)) then (if (wrap64 (x5_1 - 1)) < (y115.length : Int) then ((some (y119.set ((wrap64 (x5_1 - 1)) : Int).toNat (rd l0_2 x5_1) : List Int)).bind fun y121 => (if (wrap64 (x5_1 + 1)) < (l0_1.length : Int) then (if 0 ≤ (wrap64 (x5_1 + 1)) then (if (wrap64 (x5_1 + 1)) < (y115.length : Int) then (if x4_1.length < 5864062014805 then (spec_l03Matrix.l0 k1 (l0_1.length : Int) (x4_1 ++ [(y121.set ((wrap64 (x5_1 + 1)) : Int).toNat 1)]) (wrap64 (x5_1 + 1)) a0_0 l0_1 l0_2) else (none)) else (none)) else (none)) else (if x4_1.length < 5864062014805 then (spec_l03Matrix.l0 k1 (l0_1.length : Int) (x4_1 ++ [y121]) (wrap64 (x5_1 + 1)) a0_0 l0_1 l0_2) else (none)))) else (none)) else (none)) else (none)) else (if (wrap64 (x5_1 + 1)) < (l0_1.length : Int) then (if 0 ≤ (wrap64 (x5_1 + 1)) then (if (wrap64 (x5_1 + 1)) < (y115.length : Int) then (if x4_1.length < 5864062014805 then (spec_l03Matrix.l0 k1 (l0_1.length : Int) (x4_1 ++ [(y119.set ((wrap64 (x5_1 + 1)) : Int).toNat 1)]) (wrap64 (x5_1 + 1)) a0_0 l0_1 l0_2) else (none)) else (none)) else (none)) else (if x4_1.length < 5864062014805 then (spec_l03Matrix.l0 k1 (l0_1.length : Int) (x4_1 ++ [y119]) (wrap64 (x5_1 + 1)) a0_0 l0_1 l0_2) else (none))))) else (none)) else (none)) else (none)) = some r := by first | (rw [hy115]; exact H) | exact H
   have Ny115 := zA hy115
   clear hy115
   by_cases c9 : 0 ≤ x5_1
   rotate_left
   ·rw [if_neg c9] at H
    exact absurd H (by simp)
   rw [if_pos c9] at H
   have c9b0 : decide (0 ≤ x5_1) = true := decide_eq_true c9
   clear c9
   by_cases c10 : x5_1 < (l0_1.length : Int)
   rotate_left
   ·rw [if_neg c10] at H
    exact absurd H (by simp)
   rw [if_pos c10] at H
   have c10b0 : decide (x5_1 < (l0_1.length : Int)) = true := decide_eq_true c10
   clear c10
   by_cases c11 : x5_1 < (y115.length : Int)
   rotate_left
   ·rw [if_neg c11] at H
    exact absurd H (by simp)
   rw [if_pos c11] at H
   have c11b0 : decide (x5_1 < (y115.length : Int)) = true := decide_eq_true c11
   clear c11
   obtain ⟨y119, hy119⟩ : ∃ y_ : List Int, y_ = (y115.set (x5_1 : Int).toNat (rd l0_1 x5_1)) := ⟨_, rfl⟩
   replace H : (if x5_1 > 0 then (if x5_1 < (l0_2.length : Int) then (if 0 ≤ (wrap64 (x5_1 - 1)) then (if (wrap64 (x5_1 - 1)) < (y115.length : Int) then ((some (y119.set ((wrap64 (x5_1 - 1)) : Int).toNat (rd l0_2 x5_1) : List Int)).bind fun y121 => (if (wrap64 (x5_1 + 1)) < (l0_1.length : Int) then (if 0 ≤ (wrap64 (x5_1 + 1)) then (if (wrap64 (x5_1 + 1)) < (y115.length : Int) then (if x4_1.length < 5864062014805 then (spec_l03Matrix.l0 k1 (l0_1.length : Int) (x4_1 ++ [(y121.set ((wrap64 (x5_1 + 1)) : Int).toNat 1)]) (wrap64 (x5_1 + 1)) a0_0 l0_1 l0_2) else (none)) else (none)) else (none)) else (if x4_1.length < 5864062014805 then (spec_l03Matrix.l0 k1 (l0_1.length : Int) (x4_1 ++ [y121]) (wrap64 (x5_1 + 1)) a0_0 l0_1 l0_2) else (none)))) else (none)) else (none)) else (none)) else (if (wrap64 (x5_1 + 1)) < (l0_1.length : Int) then (if 0 ≤ (wrap64 (x5_1 + 1)) then (if (wrap64 (x5_1 + 1)) < (y115.length : Int) then (if x4_1.length < 5864062014805 then (spec_l03Matrix.l0 k1 (l0_1.length : Int) (x4_1 ++ [(y119.set ((wrap64 (x5_1 + 1)) : Int).toNat 1)]) (wrap64 (x5_1 + 1)) a0_0 l0_1 l0_2) else (none)) else (none)) else (none)) else (if x4_1.length < 5864062014805 then (spec_l03Matrix.l0 k1 (l0_1.length : Int) (x4_1 ++ [y119]) (wrap64 (x5_1 + 1)) a0_0 l0_1 l0_2) else (none)))) = some r := by first | (rw [hy119]; exact H) | exact H
   have Ny119 := zA hy119
   clear hy119
   by_cases c13 : x5_1 > 0
   rotate_left
   ·rw [if_neg c13] at H
    have c13b0 : decide (0 < x5_1) = false := decide_eq_false c13
    clear c13
    by_cases c46 : (wrap64 (x5_1 + 1)) < (l0_1.length : Int)
    rotate_left
    ·rw [if_neg c46] at H
     have c46b0 : decide ((wrap64 (x5_1 + 1)) < (l0_1.length : Int)) = false := decide_eq_false c46
     clear c46
     by_cases c60 : x4_1.length < 5864062014805
     rotate_left
     ·rw [if_neg c60] at H
      exact absurd H (by simp)
     rw [if_pos c60] at H
     have LMc60 := zA c60
     clear c60
     obtain ⟨y133, hy133⟩ : ∃ y_ : List (List Int), y_ = (x4_1 ++ [y119]) := ⟨_, rfl⟩
     replace H : (spec_l03Matrix.l0 k1 (l0_1.length : Int) y133 (wrap64 (x5_1 + 1)) a0_0 l0_1 l0_2) = some r := by first | (rw [hy133]; exact H) | exact H
     have Ny133 := zA hy133
     clear hy133
     have H' := zA H
     clear H
     go_wp2_with (first | ((with_reducible refine gate_dst (N := 17) rfl ?_); refine Kd.R_make (Kd.int .i64) _ 2 rfl (N := 17) rfl 22 _ _ rfl (l0_1.length : Int) rfl rfl Try.underlying22 (.int .i64 0) 8 info2 rfl (by decide) (by omega) 0 (ok := fun _ => True) (okp := fun _ => True) rfl (fun _ hk => hk) trivial (of_decide_eq_true (by first | (with_reducible assumption) | assumption)) (Nat.le_trans (Nat.mul_le_mul_right _ (of_decide_eq_true (by first | (with_reducible assumption) | assumption) : (l0_1.length : Int).toNat ≤ 35184372088832)) (by omega)) (Below.refl _ _) (Nat.le_refl _) ?_; intro v116 w61 ho62 hb hg_ hnew_; clear hg_ hnew_; (first | rw [← Ny115.out] at ho62 | (simp only [Int.reduceToNat] at ho62; rw [← Ny115.out] at ho62)); replace HO_4 := zA (Kd.S_elder' (by (with_reducible repeat (first | apply Kd.S_alloc | apply Kd.S_drewN | apply Kd.S_drew)); exact HO_4.out) (Kd.R_base ho62) hb); have HO117 := zA (Kd.R_lower ho62 (below_size (uH HB.out))); replace BK111 := xB BK111 hb; replace HB := xH HB hb; clear hb ho62; have hcz63_0 := bc BK111 0; have hcz63_1 := bc BK111 1; have hcz63_2 := bc BK111 2; have hfz63_0 := bf BK111 0; have hfz63_1 := bf BK111 1; have hfz63_2 := bf BK111 2; have p118 : 0 ≤ (x5_1 : Int) := of_decide_eq_true (by first | (with_reducible assumption) | assumption); have q118 : x5_1 < (l0_1.length : Int) := of_decide_eq_true (by first | (with_reducible assumption) | assumption); obtain ⟨ad118, e118, hx118_0⟩ := Kd.at_int HR0_1.out x5_1 p118 q118; cases e118; replace hx118_0 := hc HB hx118_0; replace p118 := eq_true p118; replace q118 := eq_true q118; have p12 : 0 ≤ (x5_1 : Int) := of_decide_eq_true (by first | (with_reducible assumption) | assumption); have q12 : (x5_1 : Int) < ((y115.length : Int) : Int) := of_decide_eq_true (by first | (with_reducible assumption) | assumption); obtain ⟨go12, co12, eo12, gb12, gl12, cl12, HG12⟩ := Kd.R_form HO117.out (by omega); (first | cases eo12 | (injection eo12 with ea_ en_ ec_; (first | subst ea_ | (injection ea_ with ea_; subst ea_)); subst ec_; clear en_)); have GB12 := zA gb12; have := geI GB12; have GG12 := zA HG12; clear gb12 gl12 HG12; obtain ⟨hx12_0, hf12_0⟩ := Kd.R_celln 0 HO117.out (x5_1 : Int) p12 q12; replace p12 := eq_true p12; replace q12 := eq_true q12; obtain ⟨hy64_, hz64_⟩ := Kd.R_celln 0 HO117.out (x5_1 : Int) (of_decide_eq_true (by first | (with_reducible assumption) | assumption)) (of_decide_eq_true (by first | (with_reducible assumption) | assumption)); have HP64 := Kd.R_putg HO117.out (x5_1 : Int) (rd l0_1 x5_1)) | ((with_reducible refine gate_store (t := 2) (p := 25) rfl ?_); refine store_event (t := 2) (p := 25) (v := ?vo_w65) (w1 := (w61.setCell ⟨go12, (x5_1 : Int).toNat, none⟩ (.int .i64 (rd l0_1 x5_1)))) ?hg ?ho ?hn ?hr ?_; (case ho => rfl); (case hg => rfl); (case hn => rfl); (case hr => first | (go_simp; done) | (go_simp; rfl)); intro w65 hw; have hg : w61.grownBy w65 (some go12) := (by rw [hw]; exact HP64.2); have hp_ : Kd.R (Kd.int .i64) 2 w65 w.heap.size (fun _ => True) (.slice (some ⟨go12, 0, none⟩) y115.length co12) y119 := (by rw [hw, Ny119.out]; exact HP64.1); clear HP64; replace HO_4 := zA (Kd.S_after (v := (.slice (some ⟨go12, 0, none⟩) y115.length co12)) (v1 := (.slice (some ⟨go12, 0, none⟩) y115.length co12)) (ok := (fun _ => True)) (by (with_reducible repeat (first | apply Kd.S_alloc | apply Kd.S_drewN | apply Kd.S_drew)); exact HO_4.out) hg (.inl rfl)); replace BK111 := zA (blk_grown (g := gb111) (o := .cells #[.int .i64 a0_0, .slice (some ad118) l0_1.length c0_1, .slice A0_2 l0_2.length c0_2] 29 (0, 0)) (uB BK111.out) hg (Kd.R_ne HO117.out BK111.out (by decide))); replace HO117 := zA (hp_); replace HB := zA ((by rw [hw]; exact below_set (HB.out) GB12.out : Below w.heap.size w w65)); clear hg hw hp_) | ((with_reducible refine gate_builtin (b := .append) (xs := #[.tmp 45, .tmp 47]) rfl ?_); at_builtin; refine Kd.S_append (Kd.slice 2 (Kd.int .i64)) (w0 := w) w.heap.size rfl (.tmp 45) (.tmp 47) 26 22 (.slice none 0 0) 24 rfl Try.underlying26 info22 rfl (by decide) (by omega) u4 x4_1 y119 [.slice (some ⟨go12, 0, none⟩) y115.length co12] (fun _ => True) (fun k_ => some k_ = (.slice (some ⟨go12, 0, none⟩) y115.length co12 : Value).ownBlock) rfl rfl ?aP (fun k_ hk_ => ((Kd.R_mono (ok' := fun k_ => ((fun _ => True)) k_ ∧ some k_ ≠ (u4 : Value).ownBlock) (Kd.R_apart' (HO117.out) (Kd.S_typed HO_4.out) (by decide)) (fun k_ hk => ⟨trivial, hk.2⟩))).1 k_ hk_.symm) ?aF ?aO ?aB ?aS ?aL ?_; (case aP => exact Kd.M_row (Kd.R_mono (Kd.R_tight rfl (Kd.R_mono (ok' := fun k_ => ((fun _ => True)) k_ ∧ some k_ ≠ (u4 : Value).ownBlock) (Kd.R_apart' (HO117.out) (Kd.S_typed HO_4.out) (by decide)) (fun k_ hk => ⟨trivial, hk.2⟩))) (fun _ h_ => h_))); (case aB => exact (uH HB.out)); (case aF => exact (fun _ _ => trivial)); (case aO => exact (by (with_reducible repeat (first | apply Kd.S_alloc | apply Kd.S_drewN | apply Kd.S_drew)); exact Kd.S_mono HO_4.out (fun k_ hk => ⟨trivial, fun e_ => hk.2 e_⟩))); (case aS => exact (below_size (uH HB.out))); (case aL => have := LMc60.out; omega); intro v134 w66 ho hb hg hat; rw [← Ny133.out] at ho; replace BK111 := zA (blk_grown (g := gb111) (o := .cells #[.int .i64 a0_0, .slice (some ad118) l0_1.length c0_1, .slice A0_2 l0_2.length c0_2] 29 (0, 0)) (uB BK111.out) hg (Kd.S_ne HO_4.out BK111.out (by decide))); replace HB := zA (hb); have HO135 := zA (ho); clear HO_4 HO117 ho hb hg hat))
     go_roundg k1
     case measure => have := HK1.out; omega
     case rel => exact ⟨(y133), (wrap64 (x5_1 + 1)), (by first | rfl | (simp; done) | (simp [*]; done)), H', ⟨by have := HK1.out; omega⟩, ⟨by (with_reducible repeat (first | apply Kd.S_alloc | apply Kd.S_drewN | apply Kd.S_drew)); exact HO135.out⟩, ⟨uB BK111.out⟩, ⟨uH HB.out⟩⟩
    rw [if_pos c46] at H
    have c46b0 : decide ((wrap64 (x5_1 + 1)) < (l0_1.length : Int)) = true := decide_eq_true c46
    clear c46
    obtain ⟨ji47, hji47⟩ : ∃ j_ : Int, (wrap64 (x5_1 + 1)) = j_ := ⟨_, rfl⟩
    replace H : (if 0 ≤ (ji47) then (if (ji47) < (y115.length : Int) then (if x4_1.length < 5864062014805 then (spec_l03Matrix.l0 k1 (l0_1.length : Int) (x4_1 ++ [(y119.set ((ji47) : Int).toNat 1)]) ji47 a0_0 l0_1 l0_2) else (none)) else (none)) else (none)) = some r := by first | (rw [hji47] at H; exact H) | (simp only [hji47] at H ⊢; exact H)
    (try rw [hji47] at c46b0)
    have hji47w : (IntKind.i64.wrap (x5_1 + 1)) = ji47 := (i64_w _).trans hji47
    by_cases c48 : 0 ≤ (ji47)
    rotate_left
    ·rw [if_neg c48] at H
     exact absurd H (by simp)
    rw [if_pos c48] at H
    have c48b0 : decide (0 ≤ (ji47)) = true := decide_eq_true c48
    clear c48
    by_cases c49 : (ji47) < (y115.length : Int)
    rotate_left
    ·rw [if_neg c49] at H
     exact absurd H (by simp)
    rw [if_pos c49] at H
    have c49b0 : decide ((ji47) < (y115.length : Int)) = true := decide_eq_true c49
    clear c49
    obtain ⟨y129, hy129⟩ : ∃ y_ : List Int, y_ = (y119.set ((ji47) : Int).toNat 1) := ⟨_, rfl⟩
    replace H : (if x4_1.length < 5864062014805 then (spec_l03Matrix.l0 k1 (l0_1.length : Int) (x4_1 ++ [y129]) ji47 a0_0 l0_1 l0_2) else (none)) = some r := by first | (rw [hy129]; exact H) | exact H
    have Ny129 := zA hy129
    clear hy129
    by_cases c51 : x4_1.length < 5864062014805
    rotate_left
    ·rw [if_neg c51] at H
     exact absurd H (by simp)
    rw [if_pos c51] at H
    have LMc51 := zA c51
    clear c51
    obtain ⟨y130, hy130⟩ : ∃ y_ : List (List Int), y_ = (x4_1 ++ [y129]) := ⟨_, rfl⟩
    replace H : (spec_l03Matrix.l0 k1 (l0_1.length : Int) y130 ji47 a0_0 l0_1 l0_2) = some r := by first | (rw [hy130]; exact H) | exact H
    have Ny130 := zA hy130
    clear hy130
    have H' := zA H
    clear H
    go_wp2_with (first | ((with_reducible refine gate_dst (N := 17) rfl ?_); refine Kd.R_make (Kd.int .i64) _ 2 rfl (N := 17) rfl 22 _ _ rfl (l0_1.length : Int) rfl rfl Try.underlying22 (.int .i64 0) 8 info2 rfl (by decide) (by omega) 0 (ok := fun _ => True) (okp := fun _ => True) rfl (fun _ hk => hk) trivial (of_decide_eq_true (by first | (with_reducible assumption) | assumption)) (Nat.le_trans (Nat.mul_le_mul_right _ (of_decide_eq_true (by first | (with_reducible assumption) | assumption) : (l0_1.length : Int).toNat ≤ 35184372088832)) (by omega)) (Below.refl _ _) (Nat.le_refl _) ?_; intro v116 w52 ho53 hb hg_ hnew_; clear hg_ hnew_; (first | rw [← Ny115.out] at ho53 | (simp only [Int.reduceToNat] at ho53; rw [← Ny115.out] at ho53)); replace HO_4 := zA (Kd.S_elder' (by (with_reducible repeat (first | apply Kd.S_alloc | apply Kd.S_drewN | apply Kd.S_drew)); exact HO_4.out) (Kd.R_base ho53) hb); have HO117 := zA (Kd.R_lower ho53 (below_size (uH HB.out))); replace BK111 := xB BK111 hb; replace HB := xH HB hb; clear hb ho53; have hcz54_0 := bc BK111 0; have hcz54_1 := bc BK111 1; have hcz54_2 := bc BK111 2; have hfz54_0 := bf BK111 0; have hfz54_1 := bf BK111 1; have hfz54_2 := bf BK111 2; have p118 : 0 ≤ (x5_1 : Int) := of_decide_eq_true (by first | (with_reducible assumption) | assumption); have q118 : x5_1 < (l0_1.length : Int) := of_decide_eq_true (by first | (with_reducible assumption) | assumption); obtain ⟨ad118, e118, hx118_0⟩ := Kd.at_int HR0_1.out x5_1 p118 q118; cases e118; replace hx118_0 := hc HB hx118_0; replace p118 := eq_true p118; replace q118 := eq_true q118; have p12 : 0 ≤ (x5_1 : Int) := of_decide_eq_true (by first | (with_reducible assumption) | assumption); have q12 : (x5_1 : Int) < ((y115.length : Int) : Int) := of_decide_eq_true (by first | (with_reducible assumption) | assumption); obtain ⟨go12, co12, eo12, gb12, gl12, cl12, HG12⟩ := Kd.R_form HO117.out (by omega); (first | cases eo12 | (injection eo12 with ea_ en_ ec_; (first | subst ea_ | (injection ea_ with ea_; subst ea_)); subst ec_; clear en_)); have GB12 := zA gb12; have := geI GB12; have GG12 := zA HG12; clear gb12 gl12 HG12; obtain ⟨hx12_0, hf12_0⟩ := Kd.R_celln 0 HO117.out (x5_1 : Int) p12 q12; replace p12 := eq_true p12; replace q12 := eq_true q12; obtain ⟨hy55_, hz55_⟩ := Kd.R_celln 0 HO117.out (x5_1 : Int) (of_decide_eq_true (by first | (with_reducible assumption) | assumption)) (of_decide_eq_true (by first | (with_reducible assumption) | assumption)); have HP55 := Kd.R_putg HO117.out (x5_1 : Int) (rd l0_1 x5_1)) | ((with_reducible refine gate_store (t := 2) (p := 25) rfl ?_); refine store_event (t := 2) (p := 25) (v := ?vo_w56) (w1 := (w52.setCell ⟨go12, (x5_1 : Int).toNat, none⟩ (.int .i64 (rd l0_1 x5_1)))) ?hg ?ho ?hn ?hr ?_; (case ho => rfl); (case hg => rfl); (case hn => rfl); (case hr => first | (go_simp; done) | (go_simp; rfl)); intro w56 hw; have hg : w52.grownBy w56 (some go12) := (by rw [hw]; exact HP55.2); have hp_ : Kd.R (Kd.int .i64) 2 w56 w.heap.size (fun _ => True) (.slice (some ⟨go12, 0, none⟩) y115.length co12) y119 := (by rw [hw, Ny119.out]; exact HP55.1); clear HP55; replace HO_4 := zA (Kd.S_after (v := (.slice (some ⟨go12, 0, none⟩) y115.length co12)) (v1 := (.slice (some ⟨go12, 0, none⟩) y115.length co12)) (ok := (fun _ => True)) (by (with_reducible repeat (first | apply Kd.S_alloc | apply Kd.S_drewN | apply Kd.S_drew)); exact HO_4.out) hg (.inl rfl)); replace BK111 := zA (blk_grown (g := gb111) (o := .cells #[.int .i64 a0_0, .slice (some ad118) l0_1.length c0_1, .slice A0_2 l0_2.length c0_2] 29 (0, 0)) (uB BK111.out) hg (Kd.R_ne HO117.out BK111.out (by decide))); replace HO117 := zA (hp_); replace HB := zA ((by rw [hw]; exact below_set (HB.out) GB12.out : Below w.heap.size w w56)); clear hg hw hp_; have p50 : 0 ≤ ((ji47) : Int) := of_decide_eq_true (by first | (with_reducible assumption) | assumption); have q50 : ((ji47) : Int) < ((y115.length : Int) : Int) := of_decide_eq_true (by first | (with_reducible assumption) | assumption); obtain ⟨hx50_0, hf50_0⟩ := Kd.R_celln 0 HO117.out ((ji47) : Int) p50 q50; replace p50 := eq_true p50; replace q50 := eq_true q50; obtain ⟨hy57_, hz57_⟩ := Kd.R_celln 0 HO117.out ((ji47) : Int) (of_decide_eq_true (by first | (with_reducible assumption) | assumption)) (of_decide_eq_true (by first | (with_reducible assumption) | assumption)); have HP57 := Kd.R_putg HO117.out ((ji47) : Int) 1) | ((with_reducible refine gate_store (t := 2) (p := 44) rfl ?_); refine store_event (t := 2) (p := 44) (v := ?vo_w58) (w1 := (w56.setCell ⟨go12, ((ji47) : Int).toNat, none⟩ (.int .i64 1))) ?hg ?ho ?hn ?hr ?_; (case ho => rfl); (case hg => rfl); (case hn => rfl); (case hr => first | (go_simp; done) | (go_simp; rfl)); intro w58 hw; have hg : w56.grownBy w58 (some go12) := (by rw [hw]; exact HP57.2); have hp_ : Kd.R (Kd.int .i64) 2 w58 w.heap.size (fun _ => True) (.slice (some ⟨go12, 0, none⟩) y115.length co12) y129 := (by rw [hw, Ny129.out]; exact HP57.1); clear HP57; replace HO_4 := zA (Kd.S_after (v := (.slice (some ⟨go12, 0, none⟩) y115.length co12)) (v1 := (.slice (some ⟨go12, 0, none⟩) y115.length co12)) (ok := (fun _ => True)) (by (with_reducible repeat (first | apply Kd.S_alloc | apply Kd.S_drewN | apply Kd.S_drew)); exact HO_4.out) hg (.inl rfl)); replace BK111 := zA (blk_grown (g := gb111) (o := .cells #[.int .i64 a0_0, .slice (some ad118) l0_1.length c0_1, .slice A0_2 l0_2.length c0_2] 29 (0, 0)) (uB BK111.out) hg (Kd.R_ne HO117.out BK111.out (by decide))); replace HO117 := zA (hp_); replace HB := zA ((by rw [hw]; exact below_set (HB.out) GB12.out : Below w.heap.size w w58)); clear hg hw hp_) | ((with_reducible refine gate_builtin (b := .append) (xs := #[.tmp 45, .tmp 47]) rfl ?_); at_builtin; refine Kd.S_append (Kd.slice 2 (Kd.int .i64)) (w0 := w) w.heap.size rfl (.tmp 45) (.tmp 47) 26 22 (.slice none 0 0) 24 rfl Try.underlying26 info22 rfl (by decide) (by omega) u4 x4_1 y129 [.slice (some ⟨go12, 0, none⟩) y115.length co12] (fun _ => True) (fun k_ => some k_ = (.slice (some ⟨go12, 0, none⟩) y115.length co12 : Value).ownBlock) rfl rfl ?aP (fun k_ hk_ => ((Kd.R_mono (ok' := fun k_ => ((fun _ => True)) k_ ∧ some k_ ≠ (u4 : Value).ownBlock) (Kd.R_apart' (HO117.out) (Kd.S_typed HO_4.out) (by decide)) (fun k_ hk => ⟨trivial, hk.2⟩))).1 k_ hk_.symm) ?aF ?aO ?aB ?aS ?aL ?_; (case aP => exact Kd.M_row (Kd.R_mono (Kd.R_tight rfl (Kd.R_mono (ok' := fun k_ => ((fun _ => True)) k_ ∧ some k_ ≠ (u4 : Value).ownBlock) (Kd.R_apart' (HO117.out) (Kd.S_typed HO_4.out) (by decide)) (fun k_ hk => ⟨trivial, hk.2⟩))) (fun _ h_ => h_))); (case aB => exact (uH HB.out)); (case aF => exact (fun _ _ => trivial)); (case aO => exact (by (with_reducible repeat (first | apply Kd.S_alloc | apply Kd.S_drewN | apply Kd.S_drew)); exact Kd.S_mono HO_4.out (fun k_ hk => ⟨trivial, fun e_ => hk.2 e_⟩))); (case aS => exact (below_size (uH HB.out))); (case aL => have := LMc51.out; omega); intro v131 w59 ho hb hg hat; rw [← Ny130.out] at ho; replace BK111 := zA (blk_grown (g := gb111) (o := .cells #[.int .i64 a0_0, .slice (some ad118) l0_1.length c0_1, .slice A0_2 l0_2.length c0_2] 29 (0, 0)) (uB BK111.out) hg (Kd.S_ne HO_4.out BK111.out (by decide))); replace HB := zA (hb); have HO132 := zA (ho); clear HO_4 HO117 ho hb hg hat))
    go_roundg k1
    case measure => have := HK1.out; omega
    case rel => exact ⟨(y130), (ji47), (by first | rfl | (simp; done) | (simp only [← hji47] <;> (first | rfl | simp)) | (simp [*]; done)), H', ⟨by have := HK1.out; omega⟩, ⟨by (with_reducible repeat (first | apply Kd.S_alloc | apply Kd.S_drewN | apply Kd.S_drew)); exact HO132.out⟩, ⟨uB BK111.out⟩, ⟨uH HB.out⟩⟩
   rw [if_pos c13] at H
   have c13b0 : decide (0 < x5_1) = true := decide_eq_true c13
   clear c13
   by_cases c14 : x5_1 < (l0_2.length : Int)
   rotate_left
   ·rw [if_neg c14] at H
    exact absurd H (by simp)
   rw [if_pos c14] at H
   have c14b0 : decide (x5_1 < (l0_2.length : Int)) = true := decide_eq_true c14
   clear c14
   obtain ⟨ji15, hji15⟩ : ∃ j_ : Int, (wrap64 (x5_1 - 1)) = j_ := ⟨_, rfl⟩
   replace H : (if 0 ≤ (ji15) then (if (ji15) < (y115.length : Int) then ((some (y119.set ((ji15) : Int).toNat (rd l0_2 x5_1) : List Int)).bind fun y121 => (if (wrap64 (x5_1 + 1)) < (l0_1.length : Int) then (if 0 ≤ (wrap64 (x5_1 + 1)) then (if (wrap64 (x5_1 + 1)) < (y115.length : Int) then (if x4_1.length < 5864062014805 then (spec_l03Matrix.l0 k1 (l0_1.length : Int) (x4_1 ++ [(y121.set ((wrap64 (x5_1 + 1)) : Int).toNat 1)]) (wrap64 (x5_1 + 1)) a0_0 l0_1 l0_2) else (none)) else (none)) else (none)) else (if x4_1.length < 5864062014805 then (spec_l03Matrix.l0 k1 (l0_1.length : Int) (x4_1 ++ [y121]) (wrap64 (x5_1 + 1)) a0_0 l0_1 l0_2) else (none)))) else (none)) else (none)) = some r := by first | (rw [hji15] at H; exact H) | (simp only [hji15] at H ⊢; exact H)
   have hji15w : (IntKind.i64.wrap (x5_1 - 1)) = ji15 := (i64_w _).trans hji15
   by_cases c16 : 0 ≤ (ji15)
   rotate_left
   ·rw [if_neg c16] at H
    exact absurd H (by simp)
   rw [if_pos c16] at H
   have c16b0 : decide (0 ≤ (ji15)) = true := decide_eq_true c16
   clear c16
   by_cases c17 : (ji15) < (y115.length : Int)
   rotate_left
   ·rw [if_neg c17] at H
    exact absurd H (by simp)
   rw [if_pos c17] at H
   have c17b0 : decide ((ji15) < (y115.length : Int)) = true := decide_eq_true c17
   clear c17
   obtain ⟨y121, hy121⟩ : ∃ y_ : List Int, y_ = (y119.set ((ji15) : Int).toNat (rd l0_2 x5_1)) := ⟨_, rfl⟩
   replace H : (if (wrap64 (x5_1 + 1)) < (l0_1.length : Int) then (if 0 ≤ (wrap64 (x5_1 + 1)) then (if (wrap64 (x5_1 + 1)) < (y115.length : Int) then (if x4_1.length < 5864062014805 then (spec_l03Matrix.l0 k1 (l0_1.length : Int) (x4_1 ++ [(y121.set ((wrap64 (x5_1 + 1)) : Int).toNat 1)]) (wrap64 (x5_1 + 1)) a0_0 l0_1 l0_2) else (none)) else (none)) else (none)) else (if x4_1.length < 5864062014805 then (spec_l03Matrix.l0 k1 (l0_1.length : Int) (x4_1 ++ [y121]) (wrap64 (x5_1 + 1)) a0_0 l0_1 l0_2) else (none))) = some r := by first | (rw [hy121]; exact H) | exact H
   have Ny121 := zA hy121
   clear hy121
   by_cases c19 : (wrap64 (x5_1 + 1)) < (l0_1.length : Int)
   rotate_left
   ·rw [if_neg c19] at H
    have c19b0 : decide ((wrap64 (x5_1 + 1)) < (l0_1.length : Int)) = false := decide_eq_false c19
    clear c19
    by_cases c36 : x4_1.length < 5864062014805
    rotate_left
    ·rw [if_neg c36] at H
     exact absurd H (by simp)
    rw [if_pos c36] at H
    have LMc36 := zA c36
    clear c36
    obtain ⟨y126, hy126⟩ : ∃ y_ : List (List Int), y_ = (x4_1 ++ [y121]) := ⟨_, rfl⟩
    replace H : (spec_l03Matrix.l0 k1 (l0_1.length : Int) y126 (wrap64 (x5_1 + 1)) a0_0 l0_1 l0_2) = some r := by first | (rw [hy126]; exact H) | exact H
    have Ny126 := zA hy126
    clear hy126
    have H' := zA H
    clear H
    go_wp2_with (first | ((with_reducible refine gate_dst (N := 17) rfl ?_); refine Kd.R_make (Kd.int .i64) _ 2 rfl (N := 17) rfl 22 _ _ rfl (l0_1.length : Int) rfl rfl Try.underlying22 (.int .i64 0) 8 info2 rfl (by decide) (by omega) 0 (ok := fun _ => True) (okp := fun _ => True) rfl (fun _ hk => hk) trivial (of_decide_eq_true (by first | (with_reducible assumption) | assumption)) (Nat.le_trans (Nat.mul_le_mul_right _ (of_decide_eq_true (by first | (with_reducible assumption) | assumption) : (l0_1.length : Int).toNat ≤ 35184372088832)) (by omega)) (Below.refl _ _) (Nat.le_refl _) ?_; intro v116 w37 ho38 hb hg_ hnew_; clear hg_ hnew_; (first | rw [← Ny115.out] at ho38 | (simp only [Int.reduceToNat] at ho38; rw [← Ny115.out] at ho38)); replace HO_4 := zA (Kd.S_elder' (by (with_reducible repeat (first | apply Kd.S_alloc | apply Kd.S_drewN | apply Kd.S_drew)); exact HO_4.out) (Kd.R_base ho38) hb); have HO117 := zA (Kd.R_lower ho38 (below_size (uH HB.out))); replace BK111 := xB BK111 hb; replace HB := xH HB hb; clear hb ho38; have hcz39_0 := bc BK111 0; have hcz39_1 := bc BK111 1; have hcz39_2 := bc BK111 2; have hfz39_0 := bf BK111 0; have hfz39_1 := bf BK111 1; have hfz39_2 := bf BK111 2; have p118 : 0 ≤ (x5_1 : Int) := of_decide_eq_true (by first | (with_reducible assumption) | assumption); have q118 : x5_1 < (l0_1.length : Int) := of_decide_eq_true (by first | (with_reducible assumption) | assumption); obtain ⟨ad118, e118, hx118_0⟩ := Kd.at_int HR0_1.out x5_1 p118 q118; cases e118; replace hx118_0 := hc HB hx118_0; replace p118 := eq_true p118; replace q118 := eq_true q118; have p12 : 0 ≤ (x5_1 : Int) := of_decide_eq_true (by first | (with_reducible assumption) | assumption); have q12 : (x5_1 : Int) < ((y115.length : Int) : Int) := of_decide_eq_true (by first | (with_reducible assumption) | assumption); obtain ⟨go12, co12, eo12, gb12, gl12, cl12, HG12⟩ := Kd.R_form HO117.out (by omega); (first | cases eo12 | (injection eo12 with ea_ en_ ec_; (first | subst ea_ | (injection ea_ with ea_; subst ea_)); subst ec_; clear en_)); have GB12 := zA gb12; have := geI GB12; have GG12 := zA HG12; clear gb12 gl12 HG12; obtain ⟨hx12_0, hf12_0⟩ := Kd.R_celln 0 HO117.out (x5_1 : Int) p12 q12; replace p12 := eq_true p12; replace q12 := eq_true q12; obtain ⟨hy40_, hz40_⟩ := Kd.R_celln 0 HO117.out (x5_1 : Int) (of_decide_eq_true (by first | (with_reducible assumption) | assumption)) (of_decide_eq_true (by first | (with_reducible assumption) | assumption)); have HP40 := Kd.R_putg HO117.out (x5_1 : Int) (rd l0_1 x5_1)) | ((with_reducible refine gate_store (t := 2) (p := 25) rfl ?_); refine store_event (t := 2) (p := 25) (v := ?vo_w41) (w1 := (w37.setCell ⟨go12, (x5_1 : Int).toNat, none⟩ (.int .i64 (rd l0_1 x5_1)))) ?hg ?ho ?hn ?hr ?_; (case ho => rfl); (case hg => rfl); (case hn => rfl); (case hr => first | (go_simp; done) | (go_simp; rfl)); intro w41 hw; have hg : w37.grownBy w41 (some go12) := (by rw [hw]; exact HP40.2); have hp_ : Kd.R (Kd.int .i64) 2 w41 w.heap.size (fun _ => True) (.slice (some ⟨go12, 0, none⟩) y115.length co12) y119 := (by rw [hw, Ny119.out]; exact HP40.1); clear HP40; replace HO_4 := zA (Kd.S_after (v := (.slice (some ⟨go12, 0, none⟩) y115.length co12)) (v1 := (.slice (some ⟨go12, 0, none⟩) y115.length co12)) (ok := (fun _ => True)) (by (with_reducible repeat (first | apply Kd.S_alloc | apply Kd.S_drewN | apply Kd.S_drew)); exact HO_4.out) hg (.inl rfl)); replace BK111 := zA (blk_grown (g := gb111) (o := .cells #[.int .i64 a0_0, .slice (some ad118) l0_1.length c0_1, .slice A0_2 l0_2.length c0_2] 29 (0, 0)) (uB BK111.out) hg (Kd.R_ne HO117.out BK111.out (by decide))); replace HO117 := zA (hp_); replace HB := zA ((by rw [hw]; exact below_set (HB.out) GB12.out : Below w.heap.size w w41)); clear hg hw hp_; have hcz42_0 := bc BK111 0; have hcz42_1 := bc BK111 1; have hcz42_2 := bc BK111 2; have hfz42_0 := bf BK111 0; have hfz42_1 := bf BK111 1; have hfz42_2 := bf BK111 2; have p120 : 0 ≤ (x5_1 : Int) := of_decide_eq_true (by first | (with_reducible assumption) | assumption); have q120 : x5_1 < (l0_2.length : Int) := of_decide_eq_true (by first | (with_reducible assumption) | assumption); obtain ⟨ad120, e120, hx120_0⟩ := Kd.at_int HR0_2.out x5_1 p120 q120; cases e120; replace hx120_0 := hc HB hx120_0; replace p120 := eq_true p120; replace q120 := eq_true q120; have p18 : 0 ≤ ((ji15) : Int) := of_decide_eq_true (by first | (with_reducible assumption) | assumption); have q18 : ((ji15) : Int) < ((y115.length : Int) : Int) := of_decide_eq_true (by first | (with_reducible assumption) | assumption); obtain ⟨hx18_0, hf18_0⟩ := Kd.R_celln 0 HO117.out ((ji15) : Int) p18 q18; replace p18 := eq_true p18; replace q18 := eq_true q18; obtain ⟨hy43_, hz43_⟩ := Kd.R_celln 0 HO117.out ((ji15) : Int) (of_decide_eq_true (by first | (with_reducible assumption) | assumption)) (of_decide_eq_true (by first | (with_reducible assumption) | assumption)); have HP43 := Kd.R_putg HO117.out ((ji15) : Int) (rd l0_2 x5_1)) | ((with_reducible refine gate_store (t := 2) (p := 36) rfl ?_); refine store_event (t := 2) (p := 36) (v := ?vo_w44) (w1 := (w41.setCell ⟨go12, ((ji15) : Int).toNat, none⟩ (.int .i64 (rd l0_2 x5_1)))) ?hg ?ho ?hn ?hr ?_; (case ho => rfl); (case hg => rfl); (case hn => rfl); (case hr => first | (go_simp; done) | (go_simp; rfl)); intro w44 hw; have hg : w41.grownBy w44 (some go12) := (by rw [hw]; exact HP43.2); have hp_ : Kd.R (Kd.int .i64) 2 w44 w.heap.size (fun _ => True) (.slice (some ⟨go12, 0, none⟩) y115.length co12) y121 := (by rw [hw, Ny121.out]; exact HP43.1); clear HP43; replace HO_4 := zA (Kd.S_after (v := (.slice (some ⟨go12, 0, none⟩) y115.length co12)) (v1 := (.slice (some ⟨go12, 0, none⟩) y115.length co12)) (ok := (fun _ => True)) (by (with_reducible repeat (first | apply Kd.S_alloc | apply Kd.S_drewN | apply Kd.S_drew)); exact HO_4.out) hg (.inl rfl)); replace BK111 := zA (blk_grown (g := gb111) (o := .cells #[.int .i64 a0_0, .slice (some ad118) l0_1.length c0_1, .slice (some ad120) l0_2.length c0_2] 29 (0, 0)) (uB BK111.out) hg (Kd.R_ne HO117.out BK111.out (by decide))); replace HO117 := zA (hp_); replace HB := zA ((by rw [hw]; exact below_set (HB.out) GB12.out : Below w.heap.size w w44)); clear hg hw hp_) | ((with_reducible refine gate_builtin (b := .append) (xs := #[.tmp 45, .tmp 47]) rfl ?_); at_builtin; refine Kd.S_append (Kd.slice 2 (Kd.int .i64)) (w0 := w) w.heap.size rfl (.tmp 45) (.tmp 47) 26 22 (.slice none 0 0) 24 rfl Try.underlying26 info22 rfl (by decide) (by omega) u4 x4_1 y121 [.slice (some ⟨go12, 0, none⟩) y115.length co12] (fun _ => True) (fun k_ => some k_ = (.slice (some ⟨go12, 0, none⟩) y115.length co12 : Value).ownBlock) rfl rfl ?aP (fun k_ hk_ => ((Kd.R_mono (ok' := fun k_ => ((fun _ => True)) k_ ∧ some k_ ≠ (u4 : Value).ownBlock) (Kd.R_apart' (HO117.out) (Kd.S_typed HO_4.out) (by decide)) (fun k_ hk => ⟨trivial, hk.2⟩))).1 k_ hk_.symm) ?aF ?aO ?aB ?aS ?aL ?_; (case aP => exact Kd.M_row (Kd.R_mono (Kd.R_tight rfl (Kd.R_mono (ok' := fun k_ => ((fun _ => True)) k_ ∧ some k_ ≠ (u4 : Value).ownBlock) (Kd.R_apart' (HO117.out) (Kd.S_typed HO_4.out) (by decide)) (fun k_ hk => ⟨trivial, hk.2⟩))) (fun _ h_ => h_))); (case aB => exact (uH HB.out)); (case aF => exact (fun _ _ => trivial)); (case aO => exact (by (with_reducible repeat (first | apply Kd.S_alloc | apply Kd.S_drewN | apply Kd.S_drew)); exact Kd.S_mono HO_4.out (fun k_ hk => ⟨trivial, fun e_ => hk.2 e_⟩))); (case aS => exact (below_size (uH HB.out))); (case aL => have := LMc36.out; omega); intro v127 w45 ho hb hg hat; rw [← Ny126.out] at ho; replace BK111 := zA (blk_grown (g := gb111) (o := .cells #[.int .i64 a0_0, .slice (some ad118) l0_1.length c0_1, .slice (some ad120) l0_2.length c0_2] 29 (0, 0)) (uB BK111.out) hg (Kd.S_ne HO_4.out BK111.out (by decide))); replace HB := zA (hb); have HO128 := zA (ho); clear HO_4 HO117 ho hb hg hat))
    go_roundg k1
    case measure => have := HK1.out; omega
    case rel => exact ⟨(y126), (wrap64 (x5_1 + 1)), (by first | rfl | (simp; done) | (simp [*]; done)), H', ⟨by have := HK1.out; omega⟩, ⟨by (with_reducible repeat (first | apply Kd.S_alloc | apply Kd.S_drewN | apply Kd.S_drew)); exact HO128.out⟩, ⟨uB BK111.out⟩, ⟨uH HB.out⟩⟩
   rw [if_pos c19] at H
   have c19b0 : decide ((wrap64 (x5_1 + 1)) < (l0_1.length : Int)) = true := decide_eq_true c19
   clear c19
   obtain ⟨ji20, hji20⟩ : ∃ j_ : Int, (wrap64 (x5_1 + 1)) = j_ := ⟨_, rfl⟩
   replace H : (if 0 ≤ (ji20) then (if (ji20) < (y115.length : Int) then (if x4_1.length < 5864062014805 then (spec_l03Matrix.l0 k1 (l0_1.length : Int) (x4_1 ++ [(y121.set ((ji20) : Int).toNat 1)]) ji20 a0_0 l0_1 l0_2) else (none)) else (none)) else (none)) = some r := by first | (rw [hji20] at H; exact H) | (simp only [hji20] at H ⊢; exact H)
   (try rw [hji20] at c19b0)
   have hji20w : (IntKind.i64.wrap (x5_1 + 1)) = ji20 := (i64_w _).trans hji20
   by_cases c21 : 0 ≤ (ji20)
   rotate_left
   ·rw [if_neg c21] at H
    exact absurd H (by simp)
   rw [if_pos c21] at H
   have c21b0 : decide (0 ≤ (ji20)) = true := decide_eq_true c21
   clear c21
   by_cases c22 : (ji20) < (y115.length : Int)
   rotate_left
   ·rw [if_neg c22] at H
    exact absurd H (by simp)
   rw [if_pos c22] at H
   have c22b0 : decide ((ji20) < (y115.length : Int)) = true := decide_eq_true c22
   clear c22
   obtain ⟨y122, hy122⟩ : ∃ y_ : List Int, y_ = (y121.set ((ji20) : Int).toNat 1) := ⟨_, rfl⟩
   replace H : (if x4_1.length < 5864062014805 then (spec_l03Matrix.l0 k1 (l0_1.length : Int) (x4_1 ++ [y122]) ji20 a0_0 l0_1 l0_2) else (none)) = some r := by first | (rw [hy122]; exact H) | exact H
   have Ny122 := zA hy122
   clear hy122
   by_cases c24 : x4_1.length < 5864062014805
   rotate_left
   ·rw [if_neg c24] at H
    exact absurd H (by simp)
   rw [if_pos c24] at H
   have LMc24 := zA c24
   clear c24
   obtain ⟨y123, hy123⟩ : ∃ y_ : List (List Int), y_ = (x4_1 ++ [y122]) := ⟨_, rfl⟩
   replace H : (spec_l03Matrix.l0 k1 (l0_1.length : Int) y123 ji20 a0_0 l0_1 l0_2) = some r := by first | (rw [hy123]; exact H) | exact H
   have Ny123 := zA hy123
   clear hy123
   have H' := zA H
   clear H
   go_wp2_with (first | ((with_reducible refine gate_dst (N := 17) rfl ?_); refine Kd.R_make (Kd.int .i64) _ 2 rfl (N := 17) rfl 22 _ _ rfl (l0_1.length : Int) rfl rfl Try.underlying22 (.int .i64 0) 8 info2 rfl (by decide) (by omega) 0 (ok := fun _ => True) (okp := fun _ => True) rfl (fun _ hk => hk) trivial (of_decide_eq_true (by first | (with_reducible assumption) | assumption)) (Nat.le_trans (Nat.mul_le_mul_right _ (of_decide_eq_true (by first | (with_reducible assumption) | assumption) : (l0_1.length : Int).toNat ≤ 35184372088832)) (by omega)) (Below.refl _ _) (Nat.le_refl _) ?_; intro v116 w25 ho26 hb hg_ hnew_; clear hg_ hnew_; (first | rw [← Ny115.out] at ho26 | (simp only [Int.reduceToNat] at ho26; rw [← Ny115.out] at ho26)); replace HO_4 := zA (Kd.S_elder' (by (with_reducible repeat (first | apply Kd.S_alloc | apply Kd.S_drewN | apply Kd.S_drew)); exact HO_4.out) (Kd.R_base ho26) hb); have HO117 := zA (Kd.R_lower ho26 (below_size (uH HB.out))); replace BK111 := xB BK111 hb; replace HB := xH HB hb; clear hb ho26; have hcz27_0 := bc BK111 0; have hcz27_1 := bc BK111 1; have hcz27_2 := bc BK111 2; have hfz27_0 := bf BK111 0; have hfz27_1 := bf BK111 1; have hfz27_2 := bf BK111 2; have p118 : 0 ≤ (x5_1 : Int) := of_decide_eq_true (by first | (with_reducible assumption) | assumption); have q118 : x5_1 < (l0_1.length : Int) := of_decide_eq_true (by first | (with_reducible assumption) | assumption); obtain ⟨ad118, e118, hx118_0⟩ := Kd.at_int HR0_1.out x5_1 p118 q118; cases e118; replace hx118_0 := hc HB hx118_0; replace p118 := eq_true p118; replace q118 := eq_true q118; have p12 : 0 ≤ (x5_1 : Int) := of_decide_eq_true (by first | (with_reducible assumption) | assumption); have q12 : (x5_1 : Int) < ((y115.length : Int) : Int) := of_decide_eq_true (by first | (with_reducible assumption) | assumption); obtain ⟨go12, co12, eo12, gb12, gl12, cl12, HG12⟩ := Kd.R_form HO117.out (by omega); (first | cases eo12 | (injection eo12 with ea_ en_ ec_; (first | subst ea_ | (injection ea_ with ea_; subst ea_)); subst ec_; clear en_)); have GB12 := zA gb12; have := geI GB12; have GG12 := zA HG12; clear gb12 gl12 HG12; obtain ⟨hx12_0, hf12_0⟩ := Kd.R_celln 0 HO117.out (x5_1 : Int) p12 q12; replace p12 := eq_true p12; replace q12 := eq_true q12; obtain ⟨hy28_, hz28_⟩ := Kd.R_celln 0 HO117.out (x5_1 : Int) (of_decide_eq_true (by first | (with_reducible assumption) | assumption)) (of_decide_eq_true (by first | (with_reducible assumption) | assumption)); have HP28 := Kd.R_putg HO117.out (x5_1 : Int) (rd l0_1 x5_1)) | ((with_reducible refine gate_store (t := 2) (p := 25) rfl ?_); refine store_event (t := 2) (p := 25) (v := ?vo_w29) (w1 := (w25.setCell ⟨go12, (x5_1 : Int).toNat, none⟩ (.int .i64 (rd l0_1 x5_1)))) ?hg ?ho ?hn ?hr ?_; (case ho => rfl); (case hg => rfl); (case hn => rfl); (case hr => first | (go_simp; done) | (go_simp; rfl)); intro w29 hw; have hg : w25.grownBy w29 (some go12) := (by rw [hw]; exact HP28.2); have hp_ : Kd.R (Kd.int .i64) 2 w29 w.heap.size (fun _ => True) (.slice (some ⟨go12, 0, none⟩) y115.length co12) y119 := (by rw [hw, Ny119.out]; exact HP28.1); clear HP28; replace HO_4 := zA (Kd.S_after (v := (.slice (some ⟨go12, 0, none⟩) y115.length co12)) (v1 := (.slice (some ⟨go12, 0, none⟩) y115.length co12)) (ok := (fun _ => True)) (by (with_reducible repeat (first | apply Kd.S_alloc | apply Kd.S_drewN | apply Kd.S_drew)); exact HO_4.out) hg (.inl rfl)); replace BK111 := zA (blk_grown (g := gb111) (o := .cells #[.int .i64 a0_0, .slice (some ad118) l0_1.length c0_1, .slice A0_2 l0_2.length c0_2] 29 (0, 0)) (uB BK111.out) hg (Kd.R_ne HO117.out BK111.out (by decide))); replace HO117 := zA (hp_); replace HB := zA ((by rw [hw]; exact below_set (HB.out) GB12.out : Below w.heap.size w w29)); clear hg hw hp_; have hcz30_0 := bc BK111 0; have hcz30_1 := bc BK111 1; have hcz30_2 := bc BK111 2; have hfz30_0 := bf BK111 0; have hfz30_1 := bf BK111 1; have hfz30_2 := bf BK111 2; have p120 : 0 ≤ (x5_1 : Int) := of_decide_eq_true (by first | (with_reducible assumption) | assumption); have q120 : x5_1 < (l0_2.length : Int) := of_decide_eq_true (by first | (with_reducible assumption) | assumption); obtain ⟨ad120, e120, hx120_0⟩ := Kd.at_int HR0_2.out x5_1 p120 q120; cases e120; replace hx120_0 := hc HB hx120_0; replace p120 := eq_true p120; replace q120 := eq_true q120; have p18 : 0 ≤ ((ji15) : Int) := of_decide_eq_true (by first | (with_reducible assumption) | assumption); have q18 : ((ji15) : Int) < ((y115.length : Int) : Int) := of_decide_eq_true (by first | (with_reducible assumption) | assumption); obtain ⟨hx18_0, hf18_0⟩ := Kd.R_celln 0 HO117.out ((ji15) : Int) p18 q18; replace p18 := eq_true p18; replace q18 := eq_true q18; obtain ⟨hy31_, hz31_⟩ := Kd.R_celln 0 HO117.out ((ji15) : Int) (of_decide_eq_true (by first | (with_reducible assumption) | assumption)) (of_decide_eq_true (by first | (with_reducible assumption) | assumption)); have HP31 := Kd.R_putg HO117.out ((ji15) : Int) (rd l0_2 x5_1)) | ((with_reducible refine gate_store (t := 2) (p := 36) rfl ?_); refine store_event (t := 2) (p := 36) (v := ?vo_w32) (w1 := (w29.setCell ⟨go12, ((ji15) : Int).toNat, none⟩ (.int .i64 (rd l0_2 x5_1)))) ?hg ?ho ?hn ?hr ?_; (case ho => rfl); (case hg => rfl); (case hn => rfl); (case hr => first | (go_simp; done) | (go_simp; rfl)); intro w32 hw; have hg : w29.grownBy w32 (some go12) := (by rw [hw]; exact HP31.2); have hp_ : Kd.R (Kd.int .i64) 2 w32 w.heap.size (fun _ => True) (.slice (some ⟨go12, 0, none⟩) y115.length co12) y121 := (by rw [hw, Ny121.out]; exact HP31.1); clear HP31; replace HO_4 := zA (Kd.S_after (v := (.slice (some ⟨go12, 0, none⟩) y115.length co12)) (v1 := (.slice (some ⟨go12, 0, none⟩) y115.length co12)) (ok := (fun _ => True)) (by (with_reducible repeat (first | apply Kd.S_alloc | apply Kd.S_drewN | apply Kd.S_drew)); exact HO_4.out) hg (.inl rfl)); replace BK111 := zA (blk_grown (g := gb111) (o := .cells #[.int .i64 a0_0, .slice (some ad118) l0_1.length c0_1, .slice (some ad120) l0_2.length c0_2] 29 (0, 0)) (uB BK111.out) hg (Kd.R_ne HO117.out BK111.out (by decide))); replace HO117 := zA (hp_); replace HB := zA ((by rw [hw]; exact below_set (HB.out) GB12.out : Below w.heap.size w w32)); clear hg hw hp_; have p23 : 0 ≤ ((ji20) : Int) := of_decide_eq_true (by first | (with_reducible assumption) | assumption); have q23 : ((ji20) : Int) < ((y115.length : Int) : Int) := of_decide_eq_true (by first | (with_reducible assumption) | assumption); obtain ⟨hx23_0, hf23_0⟩ := Kd.R_celln 0 HO117.out ((ji20) : Int) p23 q23; replace p23 := eq_true p23; replace q23 := eq_true q23; obtain ⟨hy33_, hz33_⟩ := Kd.R_celln 0 HO117.out ((ji20) : Int) (of_decide_eq_true (by first | (with_reducible assumption) | assumption)) (of_decide_eq_true (by first | (with_reducible assumption) | assumption)); have HP33 := Kd.R_putg HO117.out ((ji20) : Int) 1) | ((with_reducible refine gate_store (t := 2) (p := 44) rfl ?_); refine store_event (t := 2) (p := 44) (v := ?vo_w34) (w1 := (w32.setCell ⟨go12, ((ji20) : Int).toNat, none⟩ (.int .i64 1))) ?hg ?ho ?hn ?hr ?_; (case ho => rfl); (case hg => rfl); (case hn => rfl); (case hr => first | (go_simp; done) | (go_simp; rfl)); intro w34 hw; have hg : w32.grownBy w34 (some go12) := (by rw [hw]; exact HP33.2); have hp_ : Kd.R (Kd.int .i64) 2 w34 w.heap.size (fun _ => True) (.slice (some ⟨go12, 0, none⟩) y115.length co12) y122 := (by rw [hw, Ny122.out]; exact HP33.1); clear HP33; replace HO_4 := zA (Kd.S_after (v := (.slice (some ⟨go12, 0, none⟩) y115.length co12)) (v1 := (.slice (some ⟨go12, 0, none⟩) y115.length co12)) (ok := (fun _ => True)) (by (with_reducible repeat (first | apply Kd.S_alloc | apply Kd.S_drewN | apply Kd.S_drew)); exact HO_4.out) hg (.inl rfl)); replace BK111 := zA (blk_grown (g := gb111) (o := .cells #[.int .i64 a0_0, .slice (some ad118) l0_1.length c0_1, .slice (some ad120) l0_2.length c0_2] 29 (0, 0)) (uB BK111.out) hg (Kd.R_ne HO117.out BK111.out (by decide))); replace HO117 := zA (hp_); replace HB := zA ((by rw [hw]; exact below_set (HB.out) GB12.out : Below w.heap.size w w34)); clear hg hw hp_) | ((with_reducible refine gate_builtin (b := .append) (xs := #[.tmp 45, .tmp 47]) rfl ?_); at_builtin; refine Kd.S_append (Kd.slice 2 (Kd.int .i64)) (w0 := w) w.heap.size rfl (.tmp 45) (.tmp 47) 26 22 (.slice none 0 0) 24 rfl Try.underlying26 info22 rfl (by decide) (by omega) u4 x4_1 y122 [.slice (some ⟨go12, 0, none⟩) y115.length co12] (fun _ => True) (fun k_ => some k_ = (.slice (some ⟨go12, 0, none⟩) y115.length co12 : Value).ownBlock) rfl rfl ?aP (fun k_ hk_ => ((Kd.R_mono (ok' := fun k_ => ((fun _ => True)) k_ ∧ some k_ ≠ (u4 : Value).ownBlock) (Kd.R_apart' (HO117.out) (Kd.S_typed HO_4.out) (by decide)) (fun k_ hk => ⟨trivial, hk.2⟩))).1 k_ hk_.symm) ?aF ?aO ?aB ?aS ?aL ?_; (case aP => exact Kd.M_row (Kd.R_mono (Kd.R_tight rfl (Kd.R_mono (ok' := fun k_ => ((fun _ => True)) k_ ∧ some k_ ≠ (u4 : Value).ownBlock) (Kd.R_apart' (HO117.out) (Kd.S_typed HO_4.out) (by decide)) (fun k_ hk => ⟨trivial, hk.2⟩))) (fun _ h_ => h_))); (case aB => exact (uH HB.out)); (case aF => exact (fun _ _ => trivial)); (case aO => exact (by (with_reducible repeat (first | apply Kd.S_alloc | apply Kd.S_drewN | apply Kd.S_drew)); exact Kd.S_mono HO_4.out (fun k_ hk => ⟨trivial, fun e_ => hk.2 e_⟩))); (case aS => exact (below_size (uH HB.out))); (case aL => have := LMc24.out; omega); intro v124 w35 ho hb hg hat; rw [← Ny123.out] at ho; replace BK111 := zA (blk_grown (g := gb111) (o := .cells #[.int .i64 a0_0, .slice (some ad118) l0_1.length c0_1, .slice (some ad120) l0_2.length c0_2] 29 (0, 0)) (uB BK111.out) hg (Kd.S_ne HO_4.out BK111.out (by decide))); replace HB := zA (hb); have HO125 := zA (ho); clear HO_4 HO117 ho hb hg hat))
   go_roundg k1
   case measure => have := HK1.out; omega
   case rel => exact ⟨(y123), (ji20), (by first | rfl | (simp; done) | (simp only [← hji20] <;> (first | rfl | simp)) | (simp [*]; done)), H', ⟨by have := HK1.out; omega⟩, ⟨by (with_reducible repeat (first | apply Kd.S_alloc | apply Kd.S_drewN | apply Kd.S_drew)); exact HO125.out⟩, ⟨uB BK111.out⟩, ⟨uH HB.out⟩⟩
end Go.Proofs.Ytjdannndpfkadaa.Pr
