/- Texts of this session in one: what functions of the program compute, and plain facts of it, under the conditions that each theorem names. -/
import Derived.Test.YtfbnkebgdmfcfaaKFimpldegree
import Derived.Test.YtfbnkebgdmfcfaaKC01
import Derived.Test.YtfbnkebgdmfcfaaKC02
namespace Go.Proofs.Ytfbnkebgdmfcfaa.Pr
open Go.RowKit Go.Proofs.YtfbnkebgdmfcfaaW.PrintWords Go.Proofs.YtfbnkebgdmfcfaaW.PrintLast Go.Proofs.YtfbnkebgdmfcfaaW.PrintMore
attribute [local go_sem] max2_int min2_int max_two min_two max_three min_three max_four min_four   -- for this text's walks alone
set_option linter.unusedVariables false
set_option linter.unusedSimpArgs false
/-! ### impl_ExpandPolynomial_1: function 103 -/
def impl_ExpandPolynomial_1.f (l0_0 : List Int) : Option (Bool) := (impl_degree.f l0_0).bind fun t703 => (some (decide (t703 < 12)))
set_option maxHeartbeats 8000000 in
set_option maxRecDepth 100000 in
theorem impl_ExpandPolynomial_1.calls (gc0 : Nat) (A0_0 : Option Addr) (c0_0 : Nat) (l0_0 : List Int) (r : Bool) (w : World) (hb0 : w.heap[gc0]? = some (.cells #[.slice A0_0 l0_0.length c0_0] 22 (0, 0))) (hr0_0 : Kd.C (Kd.int .i64) w A0_0 l0_0.length l0_0) (hc0_0 : l0_0.length ≤ c0_0) (h : impl_ExpandPolynomial_1.f l0_0 = some r) :
  Calls Try.prog 103 #[.pointer (some ⟨gc0, 0, none⟩)] w fun e w' => e = .returned (.bool r) ∧ Drawn0 w w' := by
 have HR0_0 := zA hr0_0
 have HC0_0 := zA hc0_0
 clear hr0_0 hc0_0
 have BK0 := zA hb0
 clear hb0
 have H : ((impl_degree.f l0_0).bind fun t703 => (some (decide (t703 < 12)))) = some r := h
 clear h
 replace H := Option.bind_eq_some_iff.mp H
 obtain ⟨t703, A20, H⟩ := H
 replace H : (some (decide (t703 < 12))) = some r := H
 have A2 := zA A20
 clear A20
 obtain rfl := Option.some.inj H
 have hcz3_0 := bc BK0 0
 have hfz3_0 := bf BK0 0
 go_enter Try.func103, Try.ntmps103
 go_wp2_with (first | ((with_reducible refine gate_callee (f := 104) rfl ?_); refine gL (some 3) Try.func104 #[.slice A0_0 l0_0.length c0_0] ?_; (with_reducible refine (impl_degree.calls _ _ l0_0 t703 _ ?side1 ?side2 A2.out).mono ?_); (case side1 => exact uC HR0_0.out); (case side2 => exact HC0_0.out); rintro e w' ⟨rfl, ⟨nd, rfl⟩⟩; refine ⟨_, rfl, ?_⟩))
 go_ret
 exact ⟨by first | rfl | (simp; done) | (simp [*]; done), by repeat (first | exact Drawn0.refl _ | apply Drawn0.step)⟩
/-! ### impl_field_expand: function 105 -/
def impl_field_expand.l0 : Nat → Int → List Int → List (List Int) → List Int → Option (List Int)
 | 0, _, _, _, _ => none
 | k + 1, x0, x1, x2, x7 => if (x1.length : Int) > 0 then ((impl_degree.f x1).bind fun t707 => (if 0 ≤ t707 then (if t707 < (x1.length : Int) then (if t707 < (x7.length : Int) then ((some (x7.set (t707 : Int).toNat (rd x1 t707) : List Int)).bind fun y709 => (if t707 < (x2.length : Int) then ((impl_field_mod.f x0 (wrap64 (-(rd y709 t707)))).bind fun t712 => ((impl_field_add.f k x0 x1 (rd_L1 x2 t707) t712).bind fun t713 => (impl_field_expand.l0 k x0 t713 x2 y709))) else (none))) else (none)) else (none)) else (none))) else (some x7)
def impl_field_expand.f (k : Nat) (a0 : Int) (l1 : List Int) (l2 : List (List Int)) : Option (List Int) := if 0 ≤ (l1.length : Int) then (if ((l1.length : Int) : Int).toNat ≤ 35184372088832 then (impl_field_expand.l0 k a0 l1 l2 (List.replicate ((l1.length : Int) : Int).toNat 0)) else (none)) else (none)
def impl_field_expand.T5 : Bool × List (List Nat × List Nat) := (true, [([], []), ([], []), ([], []), ([], []), ([2, 3], [2, 3]), ([4], [4]), ([], []), ([], []), ([], []), ([7, 8], [7, 8]), ([9], [9]), ([10], [10]), ([6, 11], [6, 11]), ([0, 1, 5, 12, 12], [0, 1, 5, 12]), ([13, 13, 0, 1, 2, 3, 4, 5, 6, 7, 8, 9, 10, 11, 12, 13], [1, 13])])
def impl_field_expand.B5 : List Nat := [0, 0, 0, 0, 12, 28, 0, 0, 0, 384, 896, 1920, 4032, 8191, 16383]
theorem impl_field_expand.tab5 : rtab .any (opsOf Try.f105 5) = impl_field_expand.T5 := by kernel_rfl
theorem impl_field_expand.bits5 : waitsOk impl_field_expand.T5.2 impl_field_expand.B5 = true := by kernel_rfl
set_option maxHeartbeats 8000000 in
set_option maxRecDepth 100000 in
theorem impl_field_expand.calls (k : Nat) (a0 : Int) (P1_ : Nat → Prop) (A1 : Option Addr) (c1 : Nat) (l1 : List Int) (A2 : Option Addr) (c2 : Nat) (l2 : List (List Int)) (r : List Int) (w : World) (hs1 : Kd.V (Kd.int .i64) 2 w w.heap.size (fun k_ => P1_ k_) (.slice A1 l1.length c1) l1) (hr2 : Kd.C (Kd.slice 2 (Kd.int .i64)) w A2 l2.length l2) (hc2 : l2.length ≤ c2) (h : impl_field_expand.f k a0 l1 l2 = some r) :
  Calls Try.prog 105 #[.int .i64 a0, .slice A1 l1.length c1, .slice A2 l2.length c2] w fun e w' => ∃ v0_ : Value, e = .returned (v0_) ∧ Kd.R (Kd.int .i64) 2 w' w.heap.size (fun k_ => (w.heap.size ≤ k_)) v0_ r ∧ Below w.heap.size w w' := by
 have HO1 := zA (show Kd.V (Kd.int .i64) 2 w w.heap.size (fun k_ => (P1_ k_ ∨ w.heap.size ≤ k_)) (.slice A1 l1.length c1) l1 from Kd.V_mono hs1 (fun k_ hk => .inl hk))
 have HR2 := zA hr2
 have HC2 := zA hc2
 clear hr2 hc2
 have HB := zA (Below.refl w.heap.size w)
 have H : (if 0 ≤ (l1.length : Int) then (if ((l1.length : Int) : Int).toNat ≤ 35184372088832 then (impl_field_expand.l0 k a0 l1 l2 (List.replicate ((l1.length : Int) : Int).toNat 0)) else (none)) else (none)) = some r := h
 clear h
 by_cases c4 : 0 ≤ (l1.length : Int)
 rotate_left
 ·rw [if_neg c4] at H
  exact absurd H (by simp)

 rw [if_pos c4] at H
 have c4b0 := eq_true c4
 have c4b1 : decide (0 ≤ (l1.length : Int)) = true := decide_eq_true c4
 clear c4
 by_cases c5 : ((l1.length : Int) : Int).toNat ≤ 35184372088832
 rotate_left
 ·rw [if_neg c5] at H
  exact absurd H (by simp)
 rw [if_pos c5] at H
 have c5b0 := eq_true c5
 have c5b1 : decide (((l1.length : Int) : Int).toNat ≤ 35184372088832) = true := decide_eq_true c5
 clear c5
 obtain ⟨y704, hy704⟩ : ∃ y_ : List Int, y_ = (List.replicate ((l1.length : Int) : Int).toNat 0) := ⟨_, rfl⟩
 replace H : (impl_field_expand.l0 k a0 l1 l2 y704) = some r := by first | (rw [hy704]; exact H) | exact H
 have Ny704 := zA hy704
 clear hy704
 have H' := zA H
 clear H
 go_enter Try.func105, Try.ntmps105
 go_wp2_with (first | ((with_reducible refine gate_dst (N := 11) rfl ?_); refine Kd.R_make (Kd.int .i64) _ 2 rfl (N := 11) rfl 22 _ _ rfl (l1.length : Int) rfl rfl Try.underlying22 (.int .i64 0) 8 info2 rfl (by decide) (by omega) 0 (ok := fun _ => True) (okp := fun _ => True) rfl (fun _ hk => hk) trivial (of_decide_eq_true (by first | (with_reducible assumption) | assumption)) (Nat.le_trans (Nat.mul_le_mul_right _ (of_decide_eq_true (by first | (with_reducible assumption) | assumption) : (l1.length : Int).toNat ≤ 35184372088832)) (by omega)) (Below.refl _ _) (Nat.le_refl _) ?_; intro v705 w6 ho7 hb hg_ hnew_; clear hg_ hnew_; (first | rw [← Ny704.out] at ho7 | (simp only [Int.reduceToNat] at ho7; rw [← Ny704.out] at ho7)); replace HO1 := zA (Kd.V_elder' (by (with_reducible repeat (first | apply Kd.V_alloc | apply Kd.V_drewN | apply Kd.V_drew)); exact HO1.out) (Kd.R_base ho7) hb); have HO706 := zA (Kd.R_lower (Kd.R_newM (M := fun k_ => (w.heap.size ≤ k_)) ho7 (below_size (uH HB.out)) (fun k_ h_ => h_)) (below_size (uH HB.out))); replace HB := xH HB hb; clear hb ho7))
 go_loopg [1] k (fun kq v1 w' => ∃ (x1_1 : List Int) (x7_1 : List Int), Aside0 (impl_field_expand.l0 kq a0 x1_1 l2 x7_1 = some r) ∧ Aside0 (kq ≤ k) ∧ Aside0 (Kd.V (Kd.int .i64) 2 w' w.heap.size (fun k_ => (P1_ k_ ∨ w.heap.size ≤ k_) ∧ some k_ ≠ (v705 : Value).ownBlock) v1 x1_1) ∧ Aside0 (Kd.R (Kd.int .i64) 2 w' w.heap.size (fun k_ => (w.heap.size ≤ k_)) v705 x7_1) ∧ Aside0 (Below w.heap.size w w'))
 case atStart => exact ⟨(l1), (y704), H', ⟨Nat.le_refl _⟩, ⟨by (with_reducible repeat (first | apply Kd.V_alloc | apply Kd.V_drewN | apply Kd.V_drew)); exact HO1.out⟩, ⟨uR (Kd.R_mono HO706.out (fun _ hk => hk.1))⟩, ⟨uH HB.out⟩⟩
 case round =>
  clear H'
  (try clear c1);(try clear c2);(try clear p2);(try clear c4);(try clear c4b0);(try clear c4b1);(try clear c5);(try clear c5b0);(try clear c5b1)
  obtain ⟨x1_1, x7_1, HA, HK1, HO_1, HO_7, HB⟩ := hrel
  cases gk with
  | zero => exact absurd HA.out (by simp [impl_field_expand.l0])
  | succ k1 =>
   have H := HA.out
   clear HA
   simp only [impl_field_expand.l0] at H
   by_cases c8 : (x1_1.length : Int) > 0
   rotate_left
   ·rw [if_neg c8] at H
    have c8b0 : decide (0 < (x1_1.length : Int)) = false := decide_eq_false c8
    have c8b1 : decide (0 < x1_1.length) = false := decide_eq_false (by omega)
    clear c8
    obtain rfl := Option.some.inj H
    obtain ⟨Ao22, co22, eo22⟩ := Kd.V_slice HO_1.out
    subst eo22
    go_wp2
    go_ret
    exact ⟨_, by first | rfl | (simp [errW_none, errW_some] <;> rfl) | (simp [*, errW_none, errW_some] <;> rfl), uR HO_7.out, uH HB.out⟩
   rw [if_pos c8] at H
   have c8b0 : decide (0 < (x1_1.length : Int)) = true := decide_eq_true c8
   have c8b1 : decide (0 < x1_1.length) = true := decide_eq_true (by omega)
   clear c8
   replace H := Option.bind_eq_some_iff.mp H
   obtain ⟨t707, A90, H⟩ := H
   replace H : (if 0 ≤ t707 then (if t707 < (x1_1.length : Int) then (if t707 < (x7_1.length : Int) then ((some (x7_1.set (t707 : Int).toNat (rd x1_1 t707) : List Int)).bind fun y709 => (if t707 < (l2.length : Int) then ((impl_field_mod.f a0 (wrap64 (-(rd y709 t707)))).bind fun t712 => ((impl_field_add.f k1 a0 x1_1 (rd_L1 l2 t707) t712).bind fun t713 => (impl_field_expand.l0 k1 a0 t713 l2 y709))) else (none))) else (none)) else (none)) else (none)) = some r := H
   have A9 := zA A90
   clear A90
   by_cases c10 : 0 ≤ t707
   rotate_left
   ·rw [if_neg c10] at H
    exact absurd H (by simp)
   rw [if_pos c10] at H
   have c10b0 : decide (0 ≤ t707) = true := decide_eq_true c10
   clear c10
   by_cases c11 : t707 < (x1_1.length : Int)
   rotate_left
   ·rw [if_neg c11] at H
    exact absurd H (by simp)
   rw [if_pos c11] at H
   have c11b0 : decide (t707 < (x1_1.length : Int)) = true := decide_eq_true c11
   clear c11
   by_cases c12 : t707 < (x7_1.length : Int)
   rotate_left
   ·rw [if_neg c12] at H
    exact absurd H (by simp)
   rw [if_pos c12] at H
   have c12b0 : decide (t707 < (x7_1.length : Int)) = true := decide_eq_true c12
   clear c12
   obtain ⟨y709, hy709⟩ : ∃ y_ : List Int, y_ = (x7_1.set (t707 : Int).toNat (rd x1_1 t707)) := ⟨_, rfl⟩
   replace H : (if t707 < (l2.length : Int) then ((impl_field_mod.f a0 (wrap64 (-(rd y709 t707)))).bind fun t712 => ((impl_field_add.f k1 a0 x1_1 (rd_L1 l2 t707) t712).bind fun t713 => (impl_field_expand.l0 k1 a0 t713 l2 y709))) else (none)) = some r := by first | (rw [hy709]; exact H) | exact H
   have Ny709 := zA hy709
   clear hy709
   by_cases c14 : t707 < (l2.length : Int)
   rotate_left
   ·rw [if_neg c14] at H
    exact absurd H (by simp)
   rw [if_pos c14] at H
   have c14b0 : decide (t707 < (l2.length : Int)) = true := decide_eq_true c14
   clear c14
   replace H := Option.bind_eq_some_iff.mp H
   obtain ⟨t712, A150, H⟩ := H
   replace H : ((impl_field_add.f k1 a0 x1_1 (rd_L1 l2 t707) t712).bind fun t713 => (impl_field_expand.l0 k1 a0 t713 l2 y709)) = some r := H
   have A15 := zA A150
   clear A150
   replace H := Option.bind_eq_some_iff.mp H
   obtain ⟨t713, A160, H⟩ := H
   replace H : (impl_field_expand.l0 k1 a0 t713 l2 y709) = some r := H
   have A16 := zA A160
   clear A160
   have H' := zA H
   clear H
   obtain ⟨Ao17, co17, eo17⟩ := Kd.V_slice HO_1.out
   subst eo17
   try go_wp2_with (first | ((with_reducible refine gate_callee (f := 104) rfl ?_); refine gL (some 16) Try.func104 #[.slice Ao17 x1_1.length co17] ?_; (with_reducible refine (impl_degree.calls _ _ x1_1 t707 _ ?side1 ?side2 A9.out).mono ?_); (case side1 => exact uC ((Kd.V_reads' HO_1.out).2.2)); (case side2 => exact (Kd.V_reads' HO_1.out).2.1); rintro e w' ⟨rfl, ⟨nd, rfl⟩⟩; refine ⟨_, rfl, ?_⟩; (try (rw [drewN_self wr]; generalize hq_ : World.drewN wr _ = wr; have n0_ : Aside0 (Kd.V (Kd.int .i64) 2 wr w.heap.size (fun k_ => (P1_ k_ ∨ w.heap.size ≤ k_) ∧ some k_ ≠ (v705 : Value).ownBlock) (.slice Ao17 x1_1.length co17) x1_1) := ⟨by rw [← hq_]; exact (by (with_reducible repeat (first | apply Kd.V_alloc | apply Kd.V_drewN | apply Kd.V_drew)); exact HO_1.out)⟩; have n1_ : Aside0 (Kd.R (Kd.int .i64) 2 wr w.heap.size (fun k_ => (w.heap.size ≤ k_)) v705 x7_1) := ⟨by rw [← hq_]; exact (uR HO_7.out)⟩; have n2_ : Aside0 (Below w.heap.size w wr) := ⟨by rw [← hq_]; exact (uH HB.out)⟩; clear HO_1 HO_7 HB hq_; have HO_1 := n0_; have HO_7 := n1_; have HB := n2_; clear n0_ n1_ n2_)); have p708 : 0 ≤ (t707 : Int) := of_decide_eq_true (by first | (with_reducible assumption) | assumption); have q708 : t707 < (x1_1.length : Int) := of_decide_eq_true (by first | (with_reducible assumption) | assumption); obtain ⟨ad708, e708, hx708_0⟩ := Kd.at_int (Kd.V_reads' HO_1.out).2.2 t707 p708 q708; cases e708; replace p708 := eq_true p708; replace q708 := eq_true q708; have p13 : 0 ≤ (t707 : Int) := of_decide_eq_true (by first | (with_reducible assumption) | assumption); have q13 : (t707 : Int) < ((x7_1.length : Int) : Int) := of_decide_eq_true (by first | (with_reducible assumption) | assumption); obtain ⟨go13, co13, eo13, gb13, gl13, cl13, HG13⟩ := Kd.R_form HO_7.out (by omega); (first | cases eo13 | (injection eo13 with ea_ en_ ec_; (first | subst ea_ | (injection ea_ with ea_; subst ea_)); subst ec_; clear en_)); have GB13 := zA gb13; have := geI GB13; have GG13 := zA HG13; clear gb13 gl13 HG13; obtain ⟨hx13_0, hf13_0⟩ := Kd.R_celln 0 HO_7.out (t707 : Int) p13 q13; replace p13 := eq_true p13; replace q13 := eq_true q13; obtain ⟨hy18_, hz18_⟩ := Kd.R_celln 0 HO_7.out (t707 : Int) (of_decide_eq_true (by first | (with_reducible assumption) | assumption)) (of_decide_eq_true (by first | (with_reducible assumption) | assumption)); have HP18 := Kd.R_putg HO_7.out (t707 : Int) (rd x1_1 t707)) | ((with_reducible refine gate_store (t := 2) (p := 23) rfl ?_); refine store_event (t := 2) (p := 23) (v := ?vo_w19) (w1 := (wr.setCell ⟨go13, (t707 : Int).toNat, none⟩ (.int .i64 (rd x1_1 t707)))) ?hg ?ho ?hn ?hr ?_; (case ho => rfl); (case hg => rfl); (case hn => rfl); (case hr => first | (go_simp; done) | (go_simp; rfl)); intro w19 hw; have hg : wr.grownBy w19 (some go13) := (by rw [hw]; exact HP18.2); have hp_ : Kd.R (Kd.int .i64) 2 w19 w.heap.size (fun k_ => (w.heap.size ≤ k_)) (.slice (some ⟨go13, 0, none⟩) x7_1.length co13) y709 := (by rw [hw, Ny709.out]; exact HP18.1); clear HP18; replace HO_1 := zA (Kd.V_afterv (v := (.slice (some ⟨go13, 0, none⟩) x7_1.length co13)) (v1 := (.slice (some ⟨go13, 0, none⟩) x7_1.length co13)) (ok := (fun k_ => (P1_ k_ ∨ w.heap.size ≤ k_))) (by (with_reducible repeat (first | apply Kd.V_alloc | apply Kd.V_drewN | apply Kd.V_drew)); exact HO_1.out) hg (.inl rfl)); replace HO_7 := zA (hp_); replace HB := zA ((by rw [hw]; exact below_set (HB.out) GB13.out : Below w.heap.size w w19)); clear hg hw hp_))
   replace HO_1 := zA (Kd.V_drew HO_1.out)
   replace HO_7 := zA (Kd.R_drew HO_7.out)
   replace HB := zA (below_drew1 HB.out)
   have p710 : 0 ≤ (t707 : Int) := of_decide_eq_true (by first | (with_reducible assumption) | assumption)
   have q710 : t707 < (l2.length : Int) := of_decide_eq_true (by first | (with_reducible assumption) | assumption)
   obtain ⟨ad710, A710_0, c710_0, e710, hx710_0, hl710_0, hi710_0⟩ := at_L1 HR2.out t707 p710 q710
   have hw710_0 := hx710_0
   cases e710
   replace hx710_0 := hc HB hx710_0
   have HR710_0 := zA hi710_0
   have HC710_0 := zA hl710_0
   clear hi710_0 hl710_0
   replace p710 := eq_true p710
   replace q710 := eq_true q710
   have p711 : 0 ≤ (t707 : Int) := of_decide_eq_true (by first | (with_reducible assumption) | assumption)
   have q711 : t707 < (y709.length : Int) := (by have h_ : (t707 : Int) < ((x7_1.length : Int) : Int) := of_decide_eq_true (by first | (with_reducible assumption) | assumption); first | (have e_ := (Kd.R_reads' HO_7.out).1; omega) | simpa only [Ny709.out, List.length_set] using h_)
   have ql711 : ((t707 : Int) < ((x7_1.length : Int) : Int)) = True := eq_true (of_decide_eq_true (by first | (with_reducible assumption) | assumption))
   obtain ⟨ad711, e711, hx711_0⟩ := Kd.at_int (Kd.R_reads' HO_7.out).2.2 t707 p711 q711
   obtain rfl : (⟨go13, 0, none⟩ : Addr) = ad711 := (by injection e711)
   (first | simp only [add_plain] at hx711_0 | simp only [add_at] at hx711_0 | simp only [Addr.add, Nat.zero_add] at hx711_0 | skip)
   replace p711 := eq_true p711
   replace q711 := eq_true q711
   refine start_ (n := 15) (S := fun w' => w'.cell? (ad710.add (t707).toNat) = some (.slice A710_0 (rd_L1 l2 t707).length c710_0) ∧ w'.cell? ⟨go13, (t707).toNat, none⟩ = some (.int .i64 (rd y709 t707))) (ds := []) #[false, false, false, false, false, false, false, false, false, false, false, false, false, false, false] (by kernel_rfl) rfl rfl ⟨(hcu HB hw710_0), hx711_0⟩ (fun hHeld => ?_); refine with_tabW impl_field_expand.tab5 impl_field_expand.bits5 (fun HT_ HW_ => ?_)
   generalize w19.drew = w20 at HO_1 HO_7 HB HR710_0 hx710_0 hx711_0 hHeld ⊢
   refine pu_ 0 24 (bl 15 1) HT_ ?_
   refine pu_ 1 25 (bl 15 3) HT_ ?_
   refine pu_ 2 26 (bl 15 7) HT_ ?_
   refine pu_ 3 27 (bl 15 15) HT_ ?_
   refine pu_ 4 28 (bl 15 31) HT_ ?_
   refine pu_ 6 30 (bl 15 95) HT_ ?_
   refine pu_ 7 31 (bl 15 223) HT_ ?_
   refine pu_ 8 32 (bl 15 479) HT_ ?_
   refine pu_ 9 33 (bl 15 991) HT_ ?_
   refine ta_ 5 29 (bl 15 1023) HT_ HW_ hHeld ?_
   refine ta_ 10 34 (bl 15 2047) HT_ HW_ hHeld ?_
   refine pu_ 11 35 (bl 15 4095) HT_ ?_
   refine on_ 12 (some 36) (bl 15 8191) HT_ (fun K hK => ?_)
   refine gS Try.func122 #[.int .i64 a0, .int .i64 (wrap64 (-(rd y709 t707)))] ?_
   with_reducible refine (impl_field_mod.calls a0 (wrap64 (-(rd y709 t707))) t712 _ A15.out).mono ?_
   rintro e w' ⟨rfl, ⟨nd, rfl⟩⟩
   refine ⟨_, rfl, ?_⟩
   refine hK.out _ _ ⟨(hcu HB hw710_0), hHeld.2⟩ (fun hHeld => ?_)
   clear hK K
   refine no_ 36 ?_
   refine on_ 13 (some 37) (bl 15 16383) HT_ (fun K hK => ?_)
   refine gS Try.func142 #[.int .i64 a0, .slice (some ad708) x1_1.length co17, .slice A710_0 (rd_L1 l2 t707).length c710_0, .int .i64 t712] ?_
   with_reducible refine (impl_field_add.calls k1 a0 _ _ x1_1 _ _ (rd_L1 l2 t707) t712 t713 _ ?side1 ?side2 ?side3 ?side4 A16.out).mono ?_
   (case side1 => exact uC ((Kd.V_reads' HO_1.out).2.2))
   (case side2 => exact (Kd.V_reads' HO_1.out).2.1)
   (case side3 => repeat (first | exact (Kd.C_below HR710_0.out (uH HB.out)) | (with_reducible refine Kd.C_alloc ?_ _) | (with_reducible refine Kd.C_drewN ?_ _) | (with_reducible refine Kd.C_drew ?_)))
   (case side4 => exact HC710_0.out)
   rintro e w21 ⟨v714, rfl, ho0, hb⟩
   have HS1_ := (hb.cell (World.block_lt_of_cell? _ _ (hHeld.2))).trans (hHeld.2)
   refine ⟨_, rfl, ?_⟩
   replace HO_1 := zA (Kd.V_elder' (by (with_reducible repeat (first | apply Kd.V_alloc | apply Kd.V_drewN | apply Kd.V_drew)); exact HO_1.out) (Kd.R_base ho0) hb)
   have HO715 := zA (Kd.R_lower (Kd.R_new' (Kd.R_newM (M := fun k_ => (w.heap.size ≤ k_)) ho0 (below_size (uH HB.out)) (fun k_ h_ => h_)) (Kd.R_lt (uR HO_7.out))) (below_size (uH HB.out)))
   replace HO_7 := zA (Kd.R_elder' (uR HO_7.out) (Kd.R_base ho0) hb)
   replace HB := xH HB hb
   (try clear hb); (try clear hb2); (try clear hk); (try clear hi); (try clear ho0)
   refine hK.out _ _ ⟨(hcu HB hw710_0), HS1_⟩ (fun hHeld => ?_)
   clear hK K
   refine no_ 37 ?_
   refine pu_ 14 1 (bl 15 32767) HT_ ?_
   refine done_ (done_of HT_.out (by kernel_rfl)) ?_
   try go_wp2
   go_roundg k1
   case measure => have := HK1.out; omega
   case rel => exact ⟨(t713), (y709), H', ⟨by have := HK1.out; omega⟩, ⟨Kd.V_mono (Kd.R_V (uR HO715.out)) (fun k_ hk => by first | exact ⟨.inr hk.1.1, hk.2⟩ | exact .inr (⟨hk.1.1, hk.2⟩))⟩, ⟨uR (Kd.R_mono HO_7.out (fun _ hk => hk.1))⟩, ⟨uH HB.out⟩⟩
end Go.Proofs.Ytfbnkebgdmfcfaa.Pr
