/- Texts of this session in one: what functions of the program compute, and plain facts of it, under the conditions that each theorem names. -/
import Derived.Test.YtfbnkebgdmfcfaaKC01
import Derived.Test.YtfbnkebgdmfcfaaKC010
import Derived.Test.YtfbnkebgdmfcfaaKC02
import Derived.Test.YtfbnkebgdmfcfaaKC11
namespace Go.Proofs.Ytfbnkebgdmfcfaa.Pr
open Go.RowKit Go.Proofs.YtfbnkebgdmfcfaaW.PrintWords Go.Proofs.YtfbnkebgdmfcfaaW.PrintLast Go.Proofs.YtfbnkebgdmfcfaaW.PrintMore
attribute [local go_sem] max2_int min2_int max_two min_two max_three min_three max_four min_four   -- for this text's walks alone
set_option linter.unusedVariables false
set_option linter.unusedSimpArgs false
/-! ### impl_field_sum: function 100 -/
def impl_field_sum.l0 : Nat → Int → List (List Int) → List Int → List Int → Int → Int → Option (List Int)
 | 0, _, _, _, _, _, _ => none
 | k + 1, x0, x2, x7, x10, x11, x12 => if x12 < x11 then (if 0 ≤ x12 then (if x12 < (x10.length : Int) then (if x12 < (x2.length : Int) then ((impl_field_add.f k x0 x7 (rd_L1 x2 x12) (rd x10 x12)).bind fun t598 => (impl_field_sum.l0 k x0 x2 t598 x10 x11 (wrap64 (x12 + 1)))) else (none)) else (none)) else (none)) else (some x7)
def impl_field_sum.f (k : Nat) (a0 : Int) (l1 : List Int) (l2 : List (List Int)) : Option (List Int) := impl_field_sum.l0 k a0 l2 ([] : List Int) l1 (l1.length : Int) 0
set_option maxHeartbeats 8000000 in
set_option maxRecDepth 100000 in
theorem impl_field_sum.calls (k : Nat) (a0 : Int) (A1 : Option Addr) (c1 : Nat) (l1 : List Int) (A2 : Option Addr) (c2 : Nat) (l2 : List (List Int)) (r : List Int) (w : World) (hr1 : Kd.C (Kd.int .i64) w A1 l1.length l1) (hc1 : l1.length ≤ c1) (hr2 : Kd.C (Kd.slice 2 (Kd.int .i64)) w A2 l2.length l2) (hc2 : l2.length ≤ c2) (h : impl_field_sum.f k a0 l1 l2 = some r) :
  Calls Try.prog 100 #[.int .i64 a0, .slice A1 l1.length c1, .slice A2 l2.length c2] w fun e w' => ∃ v0_ : Value, e = .returned (v0_) ∧ Kd.R (Kd.int .i64) 2 w' w.heap.size (fun _ => True) v0_ r ∧ Below w.heap.size w w' := by
 have HR1 := zA hr1
 have HC1 := zA hc1
 clear hr1 hc1
 have HR2 := zA hr2
 have HC2 := zA hc2
 clear hr2 hc2
 have HB := zA (Below.refl w.heap.size w)
 have H : (impl_field_sum.l0 k a0 l2 ([] : List Int) l1 (l1.length : Int) 0) = some r := h
 clear h
 have H' := zA H
 clear H
 go_enter Try.func100, Try.ntmps100
 go_wp2
 go_loopg [7, 12] k (fun kq v7 v12 w' => ∃ (x7_1 : List Int) (x12_1 : Int), v12 = .int .i64 x12_1 ∧ Aside0 (impl_field_sum.l0 kq a0 l2 x7_1 l1 (l1.length : Int) x12_1 = some r) ∧ Aside0 (kq ≤ k) ∧ Aside0 (Kd.R (Kd.int .i64) 2 w' w.heap.size (fun _ => True) v7 x7_1) ∧ Aside0 (Below w.heap.size w w'))
 case atStart => exact ⟨(([] : List Int)), (0), (by first | rfl | (simp; done) | (simp [*]; done)), H', ⟨Nat.le_refl _⟩, ⟨by first | exact Kd.R_nil _ _ _ _ _ | exact Kd.N_nil _ _ _ _ _ | exact Kd.V_nil _ _ _ _ _ | exact Kd.Q_nil _ _ _ _ _ | exact Kd.S_nil _ _ _ _ _⟩, ⟨uH HB.out⟩⟩
 case round =>
  clear H'
  (try clear c1);(try clear c2);(try clear p2)
  obtain ⟨x7_1, x12_1, rfl, HA, HK1, HO_7, HB⟩ := hrel
  cases gk with
  | zero => exact absurd HA.out (by simp [impl_field_sum.l0])
  | succ k1 =>
   have H := HA.out
   clear HA
   simp only [impl_field_sum.l0] at H
   by_cases c4 : x12_1 < (l1.length : Int)
   rotate_left
   ·rw [if_neg c4] at H
    have c4b0 : decide (x12_1 < (l1.length : Int)) = false := decide_eq_false c4
    clear c4
    obtain rfl := Option.some.inj H
    go_wp2
    go_ret
    exact ⟨_, by first | rfl | (simp [errW_none, errW_some] <;> rfl) | (simp [*, errW_none, errW_some] <;> rfl), uR HO_7.out, uH HB.out⟩

   rw [if_pos c4] at H
   have c4b0 : decide (x12_1 < (l1.length : Int)) = true := decide_eq_true c4
   clear c4
   by_cases c5 : 0 ≤ x12_1
   rotate_left
   ·rw [if_neg c5] at H
    exact absurd H (by simp)
   rw [if_pos c5] at H
   have c5b0 : decide (0 ≤ x12_1) = true := decide_eq_true c5
   clear c5
   by_cases c6 : x12_1 < (l1.length : Int)
   rotate_left
   ·rw [if_neg c6] at H
    exact absurd H (by simp)
   rw [if_pos c6] at H
   have c6b0 : decide (x12_1 < (l1.length : Int)) = true := decide_eq_true c6
   clear c6
   by_cases c7 : x12_1 < (l2.length : Int)
   rotate_left
   ·rw [if_neg c7] at H
    exact absurd H (by simp)
   rw [if_pos c7] at H
   have c7b0 : decide (x12_1 < (l2.length : Int)) = true := decide_eq_true c7
   clear c7
   replace H := Option.bind_eq_some_iff.mp H
   obtain ⟨t598, A80, H⟩ := H
   replace H : (impl_field_sum.l0 k1 a0 l2 t598 l1 (l1.length : Int) (wrap64 (x12_1 + 1))) = some r := H
   have A8 := zA A80
   clear A80
   have H' := zA H
   clear H
   have p596 : 0 ≤ (x12_1 : Int) := of_decide_eq_true (by first | (with_reducible assumption) | assumption)
   have q596 : x12_1 < (l1.length : Int) := of_decide_eq_true (by first | (with_reducible assumption) | assumption)
   obtain ⟨ad596, e596, hx596_0⟩ := Kd.at_int HR1.out x12_1 p596 q596
   cases e596
   replace hx596_0 := hc HB hx596_0
   replace p596 := eq_true p596
   replace q596 := eq_true q596
   have p597 : 0 ≤ (x12_1 : Int) := of_decide_eq_true (by first | (with_reducible assumption) | assumption)
   have q597 : x12_1 < (l2.length : Int) := of_decide_eq_true (by first | (with_reducible assumption) | assumption)
   obtain ⟨ad597, A597_0, c597_0, e597, hx597_0, hl597_0, hi597_0⟩ := at_L1 HR2.out x12_1 p597 q597
   cases e597
   replace hx597_0 := hc HB hx597_0
   have HR597_0 := zA hi597_0
   have HC597_0 := zA hl597_0
   clear hi597_0 hl597_0
   replace p597 := eq_true p597
   replace q597 := eq_true q597
   obtain ⟨Ao9, co9, eo9⟩ := Kd.R_slice HO_7.out
   subst eo9
   go_wp2_with (first | ((with_reducible refine gate_callee (f := 142) rfl ?_); refine gL (some 24) Try.func142 #[.int .i64 a0, .slice Ao9 x7_1.length co9, .slice A597_0 (rd_L1 l2 x12_1).length c597_0, .int .i64 (rd l1 x12_1)] ?_; (with_reducible refine (impl_field_add.calls k1 a0 _ _ x7_1 _ _ (rd_L1 l2 x12_1) (rd l1 x12_1) t598 _ ?side1 ?side2 ?side3 ?side4 A8.out).mono ?_); (case side1 => exact uC ((Kd.R_reads' HO_7.out).2.2)); (case side2 => exact (Kd.R_reads' HO_7.out).2.1); (case side3 => exact uC ((Kd.C_below HR597_0.out HB.out))); (case side4 => exact HC597_0.out); rintro e w10 ⟨v599, rfl, ho0, hb⟩; refine ⟨_, rfl, ?_⟩; have HO600 := zA (Kd.R_lower (Kd.R_new' ho0 (Kd.R_lt (uR HO_7.out))) (below_size (uH HB.out))); replace HO_7 := zA (Kd.R_elder' (uR HO_7.out) (Kd.R_base ho0) hb); replace HB := xH HB hb; (try clear hb); (try clear hb2); (try clear hk); (try clear hi); (try clear ho0)))
   go_roundg k1
   case measure => have := HK1.out; omega
   case rel => exact ⟨(t598), (wrap64 (x12_1 + 1)), (by first | rfl | (simp; done) | (simp [*]; done)), H', ⟨by have := HK1.out; omega⟩, ⟨uR (Kd.R_mono HO600.out (fun _ hk => trivial))⟩, ⟨uH HB.out⟩⟩
/- The program's sum of numbers times polynomials; no condition. -/
theorem implSum_l0 {p : Int} (hp : Pm p) (c : List Int) (nc : Nm p c) (P : Nat → List Int) (hP : ∀ i, (P i).length ≤ i + 1) (hPn : ∀ i, Nm p (P i)) (L : List (List Int)) (hL : ∀ i, i < c.length → L.getD i [] = P i) (hLl : c.length ≤ L.length) (hs : c.length ≤ 1000) (d : Nat) : ∀ i, i + d = c.length →
    Ev (fun n => impl_field_sum.l0 n p L (sumP p P (fun k => c.getD k 0) i) c (c.length : Int) (i : Int)) (sumP p P (fun k => c.getD k 0) c.length) := by
  induction d with
  | zero =>
    intro i hi
    refine Ev.step (fun n => by rw [impl_field_sum.l0]) ?_
    refine Ev.neg (by omega) (Ev.some' ?_)
    rw [show i = c.length by omega]
  | succ d ih =>
    intro i hi
    have h1 := hP i
    have h2 := sumP_len (p := p) P (fun k => c.getD k 0) hP i
    have hc := nc.get (i := i) (by omega)
    refine Ev.step (fun n => by rw [impl_field_sum.l0]) ?_
    rw [rdL_nat, rd_nat, hL i (by omega), wsucc (i := i) (n := 1000) (by omega) (by omega)]
    refine Ev.pos (by omega) (Ev.pos (by omega) (Ev.pos (by omega) (Ev.pos (by omega) (Ev.bind (implAdd_ev hp hc _ _ (sumP_nm hp _ _ _) (hPn i) (by unfold Sm; omega) (by unfold Sm; omega)) ?_))))
    exact ih (i + 1) (by omega)
theorem implSum_ev {p : Int} (hp : Pm p) (c : List Int) (nc : Nm p c) (P : Nat → List Int) (hP : ∀ i, (P i).length ≤ i + 1) (hPn : ∀ i, Nm p (P i)) (L : List (List Int)) (hL : ∀ i, i < c.length → L.getD i [] = P i) (hLl : c.length ≤ L.length) (hs : c.length ≤ 1000) :
    Ev (fun n => impl_field_sum.f n p c L) (sumP p P (fun k => c.getD k 0) c.length) := by
  unfold impl_field_sum.f
  exact implSum_l0 hp c nc P hP hPn L hL hLl hs c.length 0 (by omega)
end Go.Proofs.Ytfbnkebgdmfcfaa.Pr
