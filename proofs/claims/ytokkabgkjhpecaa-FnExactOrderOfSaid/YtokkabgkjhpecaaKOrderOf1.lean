/- Texts of this session in one: what functions of the program compute, and plain facts of it, under the conditions that each theorem names. -/
import Derived.Below
import Derived.ChangeOld
import Derived.Lib.SmallJoins
import Derived.OpenShut
import Derived.ProofKit
import Derived.ShutString
import Derived.SizedLaws
import Derived.Test.YtokkabgkjhpecaaRows
import Derived.WalkKit
import Derived.Test.YtokkabgkjhpecaaKC01
import Derived.Test.YtokkabgkjhpecaaKC02
import Derived.Test.YtokkabgkjhpecaaKC03
import Derived.Test.YtokkabgkjhpecaaKC04
import Derived.Test.YtokkabgkjhpecaaKC06
import Derived.Test.YtokkabgkjhpecaaKC07
import Derived.Test.YtokkabgkjhpecaaWSized
namespace Go.Proofs.Ytokkabgkjhpecaa.Pr
open Go.RowKit Go.Proofs.YtokkabgkjhpecaaW.PrintWords Go.Proofs.YtokkabgkjhpecaaW.PrintLast Go.Proofs.YtokkabgkjhpecaaW.PrintMore
attribute [local go_sem] max2_int min2_int max_two min_two max_three min_three max_four min_four   -- for this text's walks alone
set_option linter.unusedVariables false
set_option linter.unusedSimpArgs false
/-! ### impl_Moments_order: function 117 -/
def impl_Moments_order.l0 : Nat → Int → Int → List Int → Option (Int)
 | 0, _, _, _ => none
 | k + 1, x3, x1304000, x1304001 => (impl_Moments_isTold.f x1304000 x1304001 (wrap64 (x3 + 1))).bind fun t1304 => (if t1304 = true then ((impl_Moments_hankel.f k x1304000 x1304001 (wrap64 (x3 + 1))).bind fun t1305 => (if t1305 = 0 then (some x3) else (impl_Moments_order.l0 k (wrap64 (x3 + 1)) x1304000 x1304001))) else (some x3))
def impl_Moments_order.f (k : Nat) (a0_0 : Int) (l0_1 : List Int) : Option (Int) := impl_Moments_order.l0 k 0 a0_0 l0_1
theorem impl_Moments_order.mono_l : ∀ k, (∀ y0 y1 y2, LeO (impl_Moments_order.l0 k y0 y1 y2) (impl_Moments_order.l0 (k + 1) y0 y1 y2))
 | 0 => fun _ _ _ r h => by simp [impl_Moments_order.l0] at h
 | k + 1 => by
  have ih0 := impl_Moments_order.mono_l k
  ·intro y0 y1 y2
   unfold impl_Moments_order.l0
   repeat' first
   | (with_reducible exact ih0 _ _ _)
   | (with_reducible exact impl_Moments_hankel.mono _ _ _ _)
   | (with_reducible exact LeO.refl _)
   | (with_reducible exact LeO.none _)
   | (with_reducible refine LeO.ite ?_ ?_)
   | (with_reducible refine LeO.bind ?_ (fun _ => ?_))
   | exact ih0 _ _ _
   | exact impl_Moments_hankel.mono _ _ _ _
   | exact LeO.none _
   | refine LeO.ite ?_ ?_
   | refine LeO.bind ?_ (fun _ => ?_)
theorem impl_Moments_order.mono : ∀ a0 a1 k, LeO (impl_Moments_order.f k a0 a1) (impl_Moments_order.f (k + 1) a0 a1) := by
 intro a0 a1 k
 have ih0 := impl_Moments_order.mono_l k
 unfold impl_Moments_order.f
 repeat' first
   | (with_reducible exact ih0 _ _ _)
   | (with_reducible exact impl_Moments_hankel.mono _ _ _ _)
   | (with_reducible exact LeO.refl _)
   | (with_reducible exact LeO.none _)
   | (with_reducible refine LeO.ite ?_ ?_)
   | (with_reducible refine LeO.bind ?_ (fun _ => ?_))
   | exact ih0 _ _ _
   | exact impl_Moments_hankel.mono _ _ _ _
   | exact LeO.none _
   | refine LeO.ite ?_ ?_
   | refine LeO.bind ?_ (fun _ => ?_)
set_option maxHeartbeats 8000000 in
set_option maxRecDepth 100000 in
theorem impl_Moments_order.calls (k : Nat) (a0_0 : Int) (A0_1 : Option Addr) (c0_1 : Nat) (l0_1 : List Int) (r : Int) (w : World) (hr0_1 : Kd.C (Kd.int .i64) w A0_1 l0_1.length l0_1) (hc0_1 : l0_1.length ≤ c0_1) (h : impl_Moments_order.f k a0_0 l0_1 = some r) :
  Calls Try.prog 117 #[.agg #[.int .i64 a0_0, .slice A0_1 l0_1.length c0_1]] w fun e w' => e = .returned (.int .i64 r) ∧ Below w.heap.size w w' := by
 have hu31 := Try.underlying31
 have HR0_1 := zA hr0_1
 have HC0_1 := zA hc0_1
 clear hr0_1 hc0_1
 have HB := zA (Below.refl w.heap.size w)
 have H : (impl_Moments_order.l0 k 0 a0_0 l0_1) = some r := h
 clear h
 have H' := zA H
 clear H
 go_enter Try.func117, Try.ntmps117
 go_wp2_with (first | ((with_reducible refine gate_dst (N := 1) rfl ?_); refine bx 1 #[.int .i64 a0_0, .slice A0_1 l0_1.length c0_1] 31 ?_; intro gb1303 hg w2 hbox hb; have BK1303 := zA (hbox); have GW1303 := gq HB hg; have GE1303 := gq HB hg; replace HB := xH HB hb; have := geI GE1303; clear hb hbox hg))
 go_loopg [3] k (fun kq v3 w' => ∃ (x3_1 : Int), v3 = .int .i64 x3_1 ∧ Aside0 (impl_Moments_order.l0 kq x3_1 a0_0 l0_1 = some r) ∧ Aside0 (kq ≤ k) ∧ Aside0 (w'.heap[gb1303]? = some (.cells #[.int .i64 a0_0, (.slice A0_1 l0_1.length c0_1)] 31 (0, 0))) ∧ Aside0 (Below w.heap.size w w'))
 case atStart => exact ⟨(0), (by first | rfl | (simp; done) | (simp [*]; done)), H', ⟨Nat.le_refl _⟩, ⟨uB BK1303.out⟩, ⟨uH HB.out⟩⟩
 case round =>
  clear H'
  (try clear c1);(try clear p2)
  obtain ⟨x3_1, rfl, HA, HK1, BK1303, HB⟩ := hrel
  cases gk with
  | zero => exact absurd HA.out (by simp [impl_Moments_order.l0])
  | succ k1 =>
   have H := HA.out
   clear HA
   simp only [impl_Moments_order.l0] at H
   replace H := Option.bind_eq_some_iff.mp H
   obtain ⟨t1304, A30, H⟩ := H
   replace H : (if t1304 = true then ((impl_Moments_hankel.f k1 a0_0 l0_1 (wrap64 (x3_1 + 1))).bind fun t1305 => (if t1305 = 0 then (some x3_1) else (impl_Moments_order.l0 k1 (wrap64 (x3_1 + 1)) a0_0 l0_1))) else (some x3_1)) = some r := H
   have A3 := zA A30
   clear A30
   by_cases c4 : t1304 = true
   ·subst c4
    have H1 : ((impl_Moments_hankel.f k1 a0_0 l0_1 (wrap64 (x3_1 + 1))).bind fun t1305 => (if t1305 = 0 then (some x3_1) else (impl_Moments_order.l0 k1 (wrap64 (x3_1 + 1)) a0_0 l0_1))) = some r := by rw [if_pos rfl] at H; exact H
    clear H
    have H := H1
    clear H1
    replace H := Option.bind_eq_some_iff.mp H
    obtain ⟨t1305, A50, H⟩ := H
    replace H : (if t1305 = 0 then (some x3_1) else (impl_Moments_order.l0 k1 (wrap64 (x3_1 + 1)) a0_0 l0_1)) = some r := H
    have A5 := zA A50
    clear A50
    by_cases c6 : t1305 = 0
    rotate_left
    ·rw [if_neg c6] at H
     have c6b0 : (t1305 == 0) = false := beq_eq_false_iff_ne.mpr c6
     have c6b1 : (t1305 != 0) = true := bne_iff_ne.mpr c6
     have H' := zA H
     clear H
     have hcz11_0 := bc BK1303 0
     have hcz11_1 := bc BK1303 1
     have hfz11_0 := bf BK1303 0
     have hfz11_1 := bf BK1303 1
     go_wp2_with (first | ((with_reducible refine gate_callee (f := 114) rfl ?_); refine gL (some 7) Try.func114 #[.agg #[.int .i64 a0_0, .slice A0_1 l0_1.length c0_1], .int .i64 (wrap64 (x3_1 + 1))] ?_; (with_reducible refine (impl_Moments_isTold.calls a0_0 _ _ l0_1 (wrap64 (x3_1 + 1)) true _ ?side1 ?side2 A3.out).mono ?_); (case side1 => exact uC ((Kd.C_below HR0_1.out HB.out))); (case side2 => exact HC0_1.out); rintro e w12 ⟨rfl, hb⟩; refine ⟨_, rfl, ?_⟩; replace BK1303 := xB BK1303 hb; replace HB := xH HB hb; (try clear hb); (try clear hb2); (try clear hk); (try clear hi); have hcz13_0 := bc BK1303 0; have hcz13_1 := bc BK1303 1; have hfz13_0 := bf BK1303 0; have hfz13_1 := bf BK1303 1) | (go_at_call 115; (with_reducible refine (impl_Moments_hankel.calls k1 a0_0 (fun k_ => k_ < w.heap.size) _ _ l0_1 (wrap64 (x3_1 + 1)) t1305 _ ?side1 A5.out).mono ?_); (case side1 => exact Kd.V_mk HC0_1.out (Kd.F_below (Kd.C_F (Kd.heap_int .i64) HR0_1.out) (uH HB.out))); rintro e w14 ⟨rfl, hb⟩; replace BK1303 := xB BK1303 hb; replace HB := xH HB hb; (try clear hb); (try clear hb2); (try clear hk); (try clear hi)))
     go_roundg k1
     case measure => have := HK1.out; omega
     case rel => exact ⟨(wrap64 (x3_1 + 1)), (by first | rfl | (simp; done) | (simp [*]; done)), H', ⟨by have := HK1.out; omega⟩, ⟨uB BK1303.out⟩, ⟨uH HB.out⟩⟩
    rw [if_pos c6] at H
    have c6b0 : (t1305 == 0) = true := beq_iff_eq.mpr c6
    have c6b1 : (t1305 != 0) = false := bne_eq_false_iff_eq.mpr c6
    clear c6
    obtain rfl := Option.some.inj H
    have hcz7_0 := bc BK1303 0
    have hcz7_1 := bc BK1303 1
    have hfz7_0 := bf BK1303 0
    have hfz7_1 := bf BK1303 1
    go_wp2_with (first | ((with_reducible refine gate_callee (f := 114) rfl ?_); refine gL (some 7) Try.func114 #[.agg #[.int .i64 a0_0, .slice A0_1 l0_1.length c0_1], .int .i64 (wrap64 (x3_1 + 1))] ?_; (with_reducible refine (impl_Moments_isTold.calls a0_0 _ _ l0_1 (wrap64 (x3_1 + 1)) true _ ?side1 ?side2 A3.out).mono ?_); (case side1 => exact uC ((Kd.C_below HR0_1.out HB.out))); (case side2 => exact HC0_1.out); rintro e w8 ⟨rfl, hb⟩; refine ⟨_, rfl, ?_⟩; replace BK1303 := xB BK1303 hb; replace HB := xH HB hb; (try clear hb); (try clear hb2); (try clear hk); (try clear hi); have hcz9_0 := bc BK1303 0; have hcz9_1 := bc BK1303 1; have hfz9_0 := bf BK1303 0; have hfz9_1 := bf BK1303 1) | (go_at_call 115; (with_reducible refine (impl_Moments_hankel.calls k1 a0_0 (fun k_ => k_ < w.heap.size) _ _ l0_1 (wrap64 (x3_1 + 1)) t1305 _ ?side1 A5.out).mono ?_); (case side1 => exact Kd.V_mk HC0_1.out (Kd.F_below (Kd.C_F (Kd.heap_int .i64) HR0_1.out) (uH HB.out))); rintro e w10 ⟨rfl, hb⟩; replace BK1303 := xB BK1303 hb; replace HB := xH HB hb; (try clear hb); (try clear hb2); (try clear hk); (try clear hi)))
    go_ret
    exact ⟨by first | rfl | (simp [errW_none, errW_some] <;> rfl) | (simp [*, errW_none, errW_some] <;> rfl), uH HB.out⟩
   ·replace c4 := Bool.eq_false_iff.mpr c4
    subst c4
    have H1 : (some x3_1) = some r := by rw [if_neg (show ¬ (false = true) by decide)] at H; exact H
    clear H
    have H := H1
    clear H1
    obtain rfl := Option.some.inj H
    have hcz15_0 := bc BK1303 0
    have hcz15_1 := bc BK1303 1
    have hfz15_0 := bf BK1303 0
    have hfz15_1 := bf BK1303 1
    go_wp2_with (first | ((with_reducible refine gate_callee (f := 114) rfl ?_); refine gL (some 7) Try.func114 #[.agg #[.int .i64 a0_0, .slice A0_1 l0_1.length c0_1], .int .i64 (wrap64 (x3_1 + 1))] ?_; (with_reducible refine (impl_Moments_isTold.calls a0_0 _ _ l0_1 (wrap64 (x3_1 + 1)) false _ ?side1 ?side2 A3.out).mono ?_); (case side1 => exact uC ((Kd.C_below HR0_1.out HB.out))); (case side2 => exact HC0_1.out); rintro e w16 ⟨rfl, hb⟩; refine ⟨_, rfl, ?_⟩; replace BK1303 := xB BK1303 hb; replace HB := xH HB hb; (try clear hb); (try clear hb2); (try clear hk); (try clear hi)))
    go_ret
    exact ⟨by first | rfl | (simp [errW_none, errW_some] <;> rfl) | (simp [*, errW_none, errW_some] <;> rfl), uH HB.out⟩
/-! ### impl_always: function 68 -/
def impl_always.f  : Option (Bool) := some true
set_option maxHeartbeats 8000000 in
set_option maxRecDepth 100000 in
theorem impl_always.calls  (r : Bool) (w : World) (h : impl_always.f  = some r) :
  Calls Try.prog 68 #[] w fun e w' => e = .returned (.bool r) ∧ Drawn0 w w' := by
 have H : (some true) = some r := h
 clear h
 obtain rfl := Option.some.inj H
 go_enter Try.func68, Try.ntmps68
 go_wp2
 go_ret
 exact ⟨by first | rfl | (simp; done) | (simp [*]; done), by repeat (first | exact Drawn0.refl _ | apply Drawn0.step)⟩
/-! ### impl_OrderOf: function 51 -/
def impl_OrderOf.f (k : Nat) (a0_0 : Int) (l0_1 : List Int) : Option (Int × Int) := (impl_momentsCode.f k a0_0 l0_1 (impl_always.f.getD false) ([] : List (List Int))).bind fun t1307 => (if t1307 = 0 then ((impl_Moments_order.f k a0_0 l0_1).bind fun t1308 => (some (t1308, 0))) else (some (0, t1307)))
theorem impl_OrderOf.mono : ∀ a0 a1 k, LeO (impl_OrderOf.f k a0 a1) (impl_OrderOf.f (k + 1) a0 a1) := by
 intro a0 a1 k
 unfold impl_OrderOf.f
 repeat' first
   | (with_reducible exact impl_Moments_order.mono _ _ _)
   | (with_reducible exact impl_momentsCode.mono _ _ _ _ _)
   | (with_reducible exact LeO.refl _)
   | (with_reducible exact LeO.none _)
   | (with_reducible refine LeO.ite ?_ ?_)
   | (with_reducible refine LeO.bind ?_ (fun _ => ?_))
   | exact impl_Moments_order.mono _ _ _
   | exact impl_momentsCode.mono _ _ _ _ _
   | exact LeO.none _
   | refine LeO.ite ?_ ?_
   | refine LeO.bind ?_ (fun _ => ?_)
set_option maxHeartbeats 8000000 in
set_option maxRecDepth 100000 in
theorem impl_OrderOf.calls (k : Nat) (a0_0 : Int) (A0_1 : Option Addr) (c0_1 : Nat) (l0_1 : List Int) (r1 : Int) (r2 : Int) (w : World) (hr0_1 : Kd.C (Kd.int .i64) w A0_1 l0_1.length l0_1) (hc0_1 : l0_1.length ≤ c0_1) (h : impl_OrderOf.f k a0_0 l0_1 = some (r1, r2)) :
  Calls Try.prog 51 #[.agg #[.int .i64 a0_0, .slice A0_1 l0_1.length c0_1]] w fun e w' => e = .returned (.tuple #[.int .i64 r1, .int .i64 r2]) ∧ Below w.heap.size w w' := by
 have hu31 := Try.underlying31
 have HR0_1 := zA hr0_1
 have HC0_1 := zA hc0_1
 clear hr0_1 hc0_1
 have HB := zA (Below.refl w.heap.size w)
 have H : ((impl_momentsCode.f k a0_0 l0_1 (impl_always.f.getD false) ([] : List (List Int))).bind fun t1307 => (if t1307 = 0 then ((impl_Moments_order.f k a0_0 l0_1).bind fun t1308 => (some (t1308, 0))) else (some (0, t1307)))) = some (r1, r2) := h
 clear h
 replace H := Option.bind_eq_some_iff.mp H
 obtain ⟨t1307, A20, H⟩ := H
 replace H : (if t1307 = 0 then ((impl_Moments_order.f k a0_0 l0_1).bind fun t1308 => (some (t1308, 0))) else (some (0, t1307))) = some (r1, r2) := H
 have A2 := zA A20
 clear A20
 by_cases c3 : t1307 = 0
 rotate_left
 ·rw [if_neg c3] at H
  have c3b0 : (t1307 == 0) = false := beq_eq_false_iff_ne.mpr c3
  have c3b1 : (t1307 != 0) = true := bne_iff_ne.mpr c3
  simp only [Option.some.injEq, Prod.mk.injEq] at H
  obtain ⟨rfl, rfl⟩ := H
  go_enter Try.func51, Try.ntmps51
  go_wp2_with (first | ((with_reducible refine gate_dst (N := 1) rfl ?_); refine bx 1 #[.int .i64 a0_0, .slice A0_1 l0_1.length c0_1] 31 ?_; intro gb1306 hg w10 hbox hb; have BK1306 := zA (hbox); have GW1306 := gq HB hg; have GE1306 := gq HB hg; replace HB := xH HB hb; have := geI GE1306; clear hb hbox hg; have hcz11_0 := bc BK1306 0; have hcz11_1 := bc BK1306 1; have hfz11_0 := bf BK1306 0; have hfz11_1 := bf BK1306 1) | ((with_reducible refine gate_callee (f := 93) rfl ?_); refine gL (some 6) Try.func93 #[.agg #[.int .i64 a0_0, .slice A0_1 l0_1.length c0_1], (.func (.func 68) #[] #[]), .slice none 0 0] ?_; (refine (impl_momentsCode.calls k a0_0 _ _ l0_1 _ (impl_always.f.getD false) _ _ ([] : List (List Int)) t1307 _ ?side1 ?side2 ?side3 ?side4 ?side5 A2.out).mono ?_); (case side1 => exact uC ((Kd.C_below HR0_1.out HB.out))); (case side2 => exact HC0_1.out); (case side3 => exact FnB.of Try.func68 (by kernel_rfl) rfl (fun W_ hW_ => calls_of_args (args' := #[]) (by simp) ((impl_always.calls  _ W_  rfl).mono fun e_ W2_ h_ => ⟨h_.1, h_.2.below⟩))); (case side4 => exact Kd.C_nil _ _); (case side5 => exact Nat.le_refl _); rintro e w12 ⟨rfl, hb⟩; refine ⟨_, rfl, ?_⟩; replace BK1306 := xB BK1306 hb; replace HB := xH HB hb; (try clear hb); (try clear hb2); (try clear hk); (try clear hi)))
  go_ret2
  exact ⟨by first | rfl | (simp [errW_none, errW_some] <;> rfl) | (simp [*, errW_none, errW_some] <;> rfl), uH HB.out⟩

 rw [if_pos c3] at H
 have c3b0 : (t1307 == 0) = true := beq_iff_eq.mpr c3
 have c3b1 : (t1307 != 0) = false := bne_eq_false_iff_eq.mpr c3
 clear c3
 replace H := Option.bind_eq_some_iff.mp H
 obtain ⟨t1308, A40, H⟩ := H
 replace H : (some (t1308, 0)) = some (r1, r2) := H
 have A4 := zA A40
 clear A40
 simp only [Option.some.injEq, Prod.mk.injEq] at H
 obtain ⟨rfl, rfl⟩ := H
 go_enter Try.func51, Try.ntmps51
 go_wp2_with (first | ((with_reducible refine gate_dst (N := 1) rfl ?_); refine bx 1 #[.int .i64 a0_0, .slice A0_1 l0_1.length c0_1] 31 ?_; intro gb1306 hg w5 hbox hb; have BK1306 := zA (hbox); have GW1306 := gq HB hg; have GE1306 := gq HB hg; replace HB := xH HB hb; have := geI GE1306; clear hb hbox hg; have hcz6_0 := bc BK1306 0; have hcz6_1 := bc BK1306 1; have hfz6_0 := bf BK1306 0; have hfz6_1 := bf BK1306 1) | ((with_reducible refine gate_callee (f := 93) rfl ?_); refine gL (some 6) Try.func93 #[.agg #[.int .i64 a0_0, .slice A0_1 l0_1.length c0_1], (.func (.func 68) #[] #[]), .slice none 0 0] ?_; (refine (impl_momentsCode.calls k a0_0 _ _ l0_1 _ (impl_always.f.getD false) _ _ ([] : List (List Int)) t1307 _ ?side1 ?side2 ?side3 ?side4 ?side5 A2.out).mono ?_); (case side1 => exact uC ((Kd.C_below HR0_1.out HB.out))); (case side2 => exact HC0_1.out); (case side3 => exact FnB.of Try.func68 (by kernel_rfl) rfl (fun W_ hW_ => calls_of_args (args' := #[]) (by simp) ((impl_always.calls  _ W_  rfl).mono fun e_ W2_ h_ => ⟨h_.1, h_.2.below⟩))); (case side4 => exact Kd.C_nil _ _); (case side5 => exact Nat.le_refl _); rintro e w7 ⟨rfl, hb⟩; refine ⟨_, rfl, ?_⟩; replace BK1306 := xB BK1306 hb; replace HB := xH HB hb; (try clear hb); (try clear hb2); (try clear hk); (try clear hi); have hcz8_0 := bc BK1306 0; have hcz8_1 := bc BK1306 1; have hfz8_0 := bf BK1306 0; have hfz8_1 := bf BK1306 1) | ((with_reducible refine gate_callee (f := 117) rfl ?_); refine gL (some 11) Try.func117 #[.agg #[.int .i64 a0_0, .slice A0_1 l0_1.length c0_1]] ?_; (with_reducible refine (impl_Moments_order.calls k a0_0 _ _ l0_1 t1308 _ ?side1 ?side2 A4.out).mono ?_); (case side1 => exact uC ((Kd.C_below HR0_1.out HB.out))); (case side2 => exact HC0_1.out); rintro e w9 ⟨rfl, hb⟩; refine ⟨_, rfl, ?_⟩; replace BK1306 := xB BK1306 hb; replace HB := xH HB hb; (try clear hb); (try clear hb2); (try clear hk); (try clear hi)))
 go_ret2
 exact ⟨by first | rfl | (simp [errW_none, errW_some] <;> rfl) | (simp [*, errW_none, errW_some] <;> rfl), uH HB.out⟩
/-! ### spec_l02Order: function 116 -/
def spec_l02Order.l0 : Nat → Int → Int → List Int → Option (Int)
 | 0, _, _, _ => none
 | k + 1, x3, x1299000, x1299001 => if x3 < (wrap64 (Int.tdiv (wrap64 ((x1299001.length : Int) + 1)) 2)) then ((spec_l02Hankel.f k x1299000 x1299001 (wrap64 (x3 + 1))).bind fun t1299 => (if t1299 = 0 then (some x3) else (spec_l02Order.l0 k (wrap64 (x3 + 1)) x1299000 x1299001))) else (some x3)
def spec_l02Order.f (k : Nat) (a0_0 : Int) (l0_1 : List Int) : Option (Int) := spec_l02Order.l0 k 0 a0_0 l0_1
theorem spec_l02Order.mono_l : ∀ k, (∀ y0 y1 y2, LeO (spec_l02Order.l0 k y0 y1 y2) (spec_l02Order.l0 (k + 1) y0 y1 y2))
 | 0 => fun _ _ _ r h => by simp [spec_l02Order.l0] at h
 | k + 1 => by
  have ih0 := spec_l02Order.mono_l k
  ·intro y0 y1 y2
   unfold spec_l02Order.l0
   repeat' first
   | (with_reducible exact ih0 _ _ _)
   | (with_reducible exact spec_l02Hankel.mono _ _ _ _)
   | (with_reducible exact LeO.refl _)
   | (with_reducible exact LeO.none _)
   | (with_reducible refine LeO.ite ?_ ?_)
   | (with_reducible refine LeO.bind ?_ (fun _ => ?_))
   | exact ih0 _ _ _
   | exact spec_l02Hankel.mono _ _ _ _
   | exact LeO.none _
   | refine LeO.ite ?_ ?_
   | refine LeO.bind ?_ (fun _ => ?_)
theorem spec_l02Order.mono : ∀ a0 a1 k, LeO (spec_l02Order.f k a0 a1) (spec_l02Order.f (k + 1) a0 a1) := by
 intro a0 a1 k
 have ih0 := spec_l02Order.mono_l k
 unfold spec_l02Order.f
 repeat' first
   | (with_reducible exact ih0 _ _ _)
   | (with_reducible exact spec_l02Hankel.mono _ _ _ _)
   | (with_reducible exact LeO.refl _)
   | (with_reducible exact LeO.none _)
   | (with_reducible refine LeO.ite ?_ ?_)
   | (with_reducible refine LeO.bind ?_ (fun _ => ?_))
   | exact ih0 _ _ _
   | exact spec_l02Hankel.mono _ _ _ _
   | exact LeO.none _
   | refine LeO.ite ?_ ?_
   | refine LeO.bind ?_ (fun _ => ?_)
set_option maxHeartbeats 8000000 in
set_option maxRecDepth 100000 in
theorem spec_l02Order.calls (k : Nat) (a0_0 : Int) (A0_1 : Option Addr) (c0_1 : Nat) (l0_1 : List Int) (r : Int) (w : World) (hr0_1 : Kd.C (Kd.int .i64) w A0_1 l0_1.length l0_1) (hc0_1 : l0_1.length ≤ c0_1) (h : spec_l02Order.f k a0_0 l0_1 = some r) :
  Calls Try.prog 116 #[.agg #[.int .i64 a0_0, .slice A0_1 l0_1.length c0_1]] w fun e w' => e = .returned (.int .i64 r) ∧ Below w.heap.size w w' := by
 have hu31 := Try.underlying31
 have HR0_1 := zA hr0_1
 have HC0_1 := zA hc0_1
 clear hr0_1 hc0_1
 have HB := zA (Below.refl w.heap.size w)
 have H : (spec_l02Order.l0 k 0 a0_0 l0_1) = some r := h
 clear h
 have H' := zA H
 clear H
 go_enter Try.func116, Try.ntmps116
 go_wp2_with (first | ((with_reducible refine gate_dst (N := 1) rfl ?_); refine bx 1 #[.int .i64 a0_0, .slice A0_1 l0_1.length c0_1] 31 ?_; intro gb1298 hg w2 hbox hb; have BK1298 := zA (hbox); have GW1298 := gq HB hg; have GE1298 := gq HB hg; replace HB := xH HB hb; have := geI GE1298; clear hb hbox hg))
 go_loopg [3] k (fun kq v3 w' => ∃ (x3_1 : Int), v3 = .int .i64 x3_1 ∧ Aside0 (spec_l02Order.l0 kq x3_1 a0_0 l0_1 = some r) ∧ Aside0 (kq ≤ k) ∧ Aside0 (w'.heap[gb1298]? = some (.cells #[.int .i64 a0_0, (.slice A0_1 l0_1.length c0_1)] 31 (0, 0))) ∧ Aside0 (Below w.heap.size w w'))
 case atStart => exact ⟨(0), (by first | rfl | (simp; done) | (simp [*]; done)), H', ⟨Nat.le_refl _⟩, ⟨uB BK1298.out⟩, ⟨uH HB.out⟩⟩
 case round =>
  clear H'
  (try clear c1);(try clear p2)
  obtain ⟨x3_1, rfl, HA, HK1, BK1298, HB⟩ := hrel
  cases gk with
  | zero => exact absurd HA.out (by simp [spec_l02Order.l0])
  | succ k1 =>
   have H := HA.out
   clear HA
   simp only [spec_l02Order.l0] at H
   by_cases c3 : x3_1 < (wrap64 (Int.tdiv (wrap64 ((l0_1.length : Int) + 1)) 2))
   rotate_left
   ·rw [if_neg c3] at H
    have c3b0 : decide (x3_1 < (wrap64 (Int.tdiv (wrap64 ((l0_1.length : Int) + 1)) 2))) = false := decide_eq_false c3
    clear c3
    obtain rfl := Option.some.inj H
    have hcz10_0 := bc BK1298 0
    have hcz10_1 := bc BK1298 1
    have hfz10_0 := bf BK1298 0
    have hfz10_1 := bf BK1298 1
    go_wp2
    go_ret
    exact ⟨by first | rfl | (simp [errW_none, errW_some] <;> rfl) | (simp [*, errW_none, errW_some] <;> rfl), uH HB.out⟩

   rw [if_pos c3] at H
   have c3b0 : decide (x3_1 < (wrap64 (Int.tdiv (wrap64 ((l0_1.length : Int) + 1)) 2))) = true := decide_eq_true c3
   clear c3
   replace H := Option.bind_eq_some_iff.mp H
   obtain ⟨t1299, A40, H⟩ := H
   replace H : (if t1299 = 0 then (some x3_1) else (spec_l02Order.l0 k1 (wrap64 (x3_1 + 1)) a0_0 l0_1)) = some r := H
   have A4 := zA A40
   clear A40
   by_cases c5 : t1299 = 0
   rotate_left
   ·rw [if_neg c5] at H
    have c5b0 : (t1299 == 0) = false := beq_eq_false_iff_ne.mpr c5
    have c5b1 : (t1299 != 0) = true := bne_iff_ne.mpr c5
    have H' := zA H
    clear H
    have hcz8_0 := bc BK1298 0
    have hcz8_1 := bc BK1298 1
    have hfz8_0 := bf BK1298 0
    have hfz8_1 := bf BK1298 1
    go_wp2_with (first | (go_at_call 112; (with_reducible refine (spec_l02Hankel.calls k1 a0_0 _ _ l0_1 (wrap64 (x3_1 + 1)) t1299 _ ?side1 ?side2 A4.out).mono ?_); (case side1 => exact uC ((Kd.C_below HR0_1.out HB.out))); (case side2 => exact HC0_1.out); rintro e w9 ⟨rfl, hb⟩; replace BK1298 := xB BK1298 hb; replace HB := xH HB hb; (try clear hb); (try clear hb2); (try clear hk); (try clear hi)))
    go_roundg k1
    case measure => have := HK1.out; omega
    case rel => exact ⟨(wrap64 (x3_1 + 1)), (by first | rfl | (simp; done) | (simp [*]; done)), H', ⟨by have := HK1.out; omega⟩, ⟨uB BK1298.out⟩, ⟨uH HB.out⟩⟩
   rw [if_pos c5] at H
   have c5b0 : (t1299 == 0) = true := beq_iff_eq.mpr c5
   have c5b1 : (t1299 != 0) = false := bne_eq_false_iff_eq.mpr c5
   clear c5
   obtain rfl := Option.some.inj H
   have hcz6_0 := bc BK1298 0
   have hcz6_1 := bc BK1298 1
   have hfz6_0 := bf BK1298 0
   have hfz6_1 := bf BK1298 1
   go_wp2_with (first | (go_at_call 112; (with_reducible refine (spec_l02Hankel.calls k1 a0_0 _ _ l0_1 (wrap64 (x3_1 + 1)) t1299 _ ?side1 ?side2 A4.out).mono ?_); (case side1 => exact uC ((Kd.C_below HR0_1.out HB.out))); (case side2 => exact HC0_1.out); rintro e w7 ⟨rfl, hb⟩; replace BK1298 := xB BK1298 hb; replace HB := xH HB hb; (try clear hb); (try clear hb2); (try clear hk); (try clear hi)))
   go_ret
   exact ⟨by first | rfl | (simp [errW_none, errW_some] <;> rfl) | (simp [*, errW_none, errW_some] <;> rfl), uH HB.out⟩
/-! ### spec_OrderOf: function 50 -/
def spec_OrderOf.f (k : Nat) (a0_0 : Int) (l0_1 : List Int) : Option (Int × Int) := (spec_l02Are.f k a0_0 l0_1).bind fun t1301 => (if t1301 = true then ((spec_l02Order.f k a0_0 l0_1).bind fun t1302 => (some (t1302, 0))) else (some (0, 1)))
theorem spec_OrderOf.mono : ∀ a0 a1 k, LeO (spec_OrderOf.f k a0 a1) (spec_OrderOf.f (k + 1) a0 a1) := by
 intro a0 a1 k
 unfold spec_OrderOf.f
 repeat' first
   | (with_reducible exact spec_l02Are.mono _ _ _)
   | (with_reducible exact spec_l02Order.mono _ _ _)
   | (with_reducible exact LeO.refl _)
   | (with_reducible exact LeO.none _)
   | (with_reducible refine LeO.ite ?_ ?_)
   | (with_reducible refine LeO.bind ?_ (fun _ => ?_))
   | exact spec_l02Are.mono _ _ _
   | exact spec_l02Order.mono _ _ _
   | exact LeO.none _
   | refine LeO.ite ?_ ?_
   | refine LeO.bind ?_ (fun _ => ?_)
set_option maxHeartbeats 8000000 in
set_option maxRecDepth 100000 in
theorem spec_OrderOf.calls (k : Nat) (a0_0 : Int) (A0_1 : Option Addr) (c0_1 : Nat) (l0_1 : List Int) (r1 : Int) (r2 : Int) (w : World) (hr0_1 : Kd.C (Kd.int .i64) w A0_1 l0_1.length l0_1) (hc0_1 : l0_1.length ≤ c0_1) (h : spec_OrderOf.f k a0_0 l0_1 = some (r1, r2)) :
  Calls Try.prog 50 #[.agg #[.int .i64 a0_0, .slice A0_1 l0_1.length c0_1]] w fun e w' => e = .returned (.tuple #[.int .i64 r1, .int .i64 r2]) ∧ Below w.heap.size w w' := by
 have hu31 := Try.underlying31
 have HR0_1 := zA hr0_1
 have HC0_1 := zA hc0_1
 clear hr0_1 hc0_1
 have HB := zA (Below.refl w.heap.size w)
 have H : ((spec_l02Are.f k a0_0 l0_1).bind fun t1301 => (if t1301 = true then ((spec_l02Order.f k a0_0 l0_1).bind fun t1302 => (some (t1302, 0))) else (some (0, 1)))) = some (r1, r2) := h
 clear h
 replace H := Option.bind_eq_some_iff.mp H
 obtain ⟨t1301, A20, H⟩ := H
 replace H : (if t1301 = true then ((spec_l02Order.f k a0_0 l0_1).bind fun t1302 => (some (t1302, 0))) else (some (0, 1))) = some (r1, r2) := H
 have A2 := zA A20
 clear A20
 by_cases c3 : t1301 = true
 ·subst c3
  have H1 : ((spec_l02Order.f k a0_0 l0_1).bind fun t1302 => (some (t1302, 0))) = some (r1, r2) := by rw [if_pos rfl] at H; exact H
  clear H
  have H := H1
  clear H1
  replace H := Option.bind_eq_some_iff.mp H
  obtain ⟨t1302, A40, H⟩ := H
  replace H : (some (t1302, 0)) = some (r1, r2) := H
  have A4 := zA A40
  clear A40
  simp only [Option.some.injEq, Prod.mk.injEq] at H
  obtain ⟨rfl, rfl⟩ := H
  go_enter Try.func50, Try.ntmps50
  go_wp2_with (first | ((with_reducible refine gate_dst (N := 1) rfl ?_); refine bx 1 #[.int .i64 a0_0, .slice A0_1 l0_1.length c0_1] 31 ?_; intro gb1300 hg w5 hbox hb; have BK1300 := zA (hbox); have GW1300 := gq HB hg; have GE1300 := gq HB hg; replace HB := xH HB hb; have := geI GE1300; clear hb hbox hg; have hcz6_0 := bc BK1300 0; have hcz6_1 := bc BK1300 1; have hfz6_0 := bf BK1300 0; have hfz6_1 := bf BK1300 1) | ((with_reducible refine gate_callee (f := 57) rfl ?_); refine gL (some 5) Try.func57 #[.agg #[.int .i64 a0_0, .slice A0_1 l0_1.length c0_1]] ?_; (with_reducible refine (spec_l02Are.calls k a0_0 _ _ l0_1 true _ ?side1 ?side2 A2.out).mono ?_); (case side1 => exact uC ((Kd.C_below HR0_1.out HB.out))); (case side2 => exact HC0_1.out); rintro e w7 ⟨rfl, hb⟩; refine ⟨_, rfl, ?_⟩; replace BK1300 := xB BK1300 hb; replace HB := xH HB hb; (try clear hb); (try clear hb2); (try clear hk); (try clear hi); have hcz8_0 := bc BK1300 0; have hcz8_1 := bc BK1300 1; have hfz8_0 := bf BK1300 0; have hfz8_1 := bf BK1300 1) | ((with_reducible refine gate_callee (f := 116) rfl ?_); refine gL (some 8) Try.func116 #[.agg #[.int .i64 a0_0, .slice A0_1 l0_1.length c0_1]] ?_; (with_reducible refine (spec_l02Order.calls k a0_0 _ _ l0_1 t1302 _ ?side1 ?side2 A4.out).mono ?_); (case side1 => exact uC ((Kd.C_below HR0_1.out HB.out))); (case side2 => exact HC0_1.out); rintro e w9 ⟨rfl, hb⟩; refine ⟨_, rfl, ?_⟩; replace BK1300 := xB BK1300 hb; replace HB := xH HB hb; (try clear hb); (try clear hb2); (try clear hk); (try clear hi)))
  go_ret2
  exact ⟨by first | rfl | (simp [errW_none, errW_some] <;> rfl) | (simp [*, errW_none, errW_some] <;> rfl), uH HB.out⟩
 ·replace c3 := Bool.eq_false_iff.mpr c3
  subst c3
  have H1 : (some (0, 1)) = some (r1, r2) := by rw [if_neg (show ¬ (false = true) by decide)] at H; exact H
  clear H
  have H := H1
  clear H1
  simp only [Option.some.injEq, Prod.mk.injEq] at H
  obtain ⟨rfl, rfl⟩ := H
  go_enter Try.func50, Try.ntmps50
  go_wp2_with (first | ((with_reducible refine gate_dst (N := 1) rfl ?_); refine bx 1 #[.int .i64 a0_0, .slice A0_1 l0_1.length c0_1] 31 ?_; intro gb1300 hg w10 hbox hb; have BK1300 := zA (hbox); have GW1300 := gq HB hg; have GE1300 := gq HB hg; replace HB := xH HB hb; have := geI GE1300; clear hb hbox hg; have hcz11_0 := bc BK1300 0; have hcz11_1 := bc BK1300 1; have hfz11_0 := bf BK1300 0; have hfz11_1 := bf BK1300 1) | ((with_reducible refine gate_callee (f := 57) rfl ?_); refine gL (some 5) Try.func57 #[.agg #[.int .i64 a0_0, .slice A0_1 l0_1.length c0_1]] ?_; (with_reducible refine (spec_l02Are.calls k a0_0 _ _ l0_1 false _ ?side1 ?side2 A2.out).mono ?_); (case side1 => exact uC ((Kd.C_below HR0_1.out HB.out))); (case side2 => exact HC0_1.out); rintro e w12 ⟨rfl, hb⟩; refine ⟨_, rfl, ?_⟩; replace BK1300 := xB BK1300 hb; replace HB := xH HB hb; (try clear hb); (try clear hb2); (try clear hk); (try clear hi)))
  go_ret2
  exact ⟨by first | rfl | (simp [errW_none, errW_some] <;> rfl) | (simp [*, errW_none, errW_some] <;> rfl), uH HB.out⟩
/-! ### laws_FnExactOrderOf: function 12 -/
def laws_FnExactOrderOf.j0 : Nat → Bool → Int → List Int → Int → List Int → Option (Bool)
 | 0, _, _, _, _, _ => none
 | k + 1, x34, x1310000, x1310001, x1322000, x1322001 => if x34 = true then (some false) else ((laws_toMoments.f k x1310000 x1310001).bind fun bt1324 => ((laws_eqMoments.f k x1322000 x1322001 bt1324.1 bt1324.2).bind fun t1328 => (if t1328 = true then (some true) else (some false))))
def laws_FnExactOrderOf.f (k : Nat) (a0_0 : Int) (l0_1 : List Int) : Option (Bool) := (laws_szMoments.f a0_0 l0_1 1048576).bind fun t1310 => (if t1310 < 0 then (some true) else ((laws_toMoments.f k a0_0 l0_1).bind fun bt1311 => ((spec_OrderOf.f k bt1311.1 bt1311.2).bind fun bt1315 => ((laws_toMoments.f k a0_0 l0_1).bind fun bt1317 => ((impl_OrderOf.f k bt1317.1 bt1317.2).bind fun bt1322 => (if bt1322.1 = bt1315.1 then (laws_FnExactOrderOf.j0 k (bt1322.2 != bt1315.2) a0_0 l0_1 bt1317.1 bt1317.2) else (laws_FnExactOrderOf.j0 k true a0_0 l0_1 bt1317.1 bt1317.2)))))))
theorem laws_FnExactOrderOf.mono_l : ∀ k, (∀ y0 y1 y2 y3 y4, LeO (laws_FnExactOrderOf.j0 k y0 y1 y2 y3 y4) (laws_FnExactOrderOf.j0 (k + 1) y0 y1 y2 y3 y4))
 | 0 => fun _ _ _ _ _ r h => by simp [laws_FnExactOrderOf.j0] at h
 | k + 1 => by
  have ih0 := laws_FnExactOrderOf.mono_l k
  ·intro y0 y1 y2 y3 y4
   unfold laws_FnExactOrderOf.j0
   repeat' first
   | (with_reducible exact ih0 _ _ _ _ _)
   | (with_reducible exact impl_OrderOf.mono _ _ _)
   | (with_reducible exact laws_eqMoments.mono _ _ _ _ _)
   | (with_reducible exact laws_toMoments.mono _ _ _)
   | (with_reducible exact spec_OrderOf.mono _ _ _)
   | (with_reducible exact LeO.refl _)
   | (with_reducible exact LeO.none _)
   | (with_reducible refine LeO.ite ?_ ?_)
   | (with_reducible refine LeO.bind ?_ (fun _ => ?_))
   | exact ih0 _ _ _ _ _
   | exact impl_OrderOf.mono _ _ _
   | exact laws_eqMoments.mono _ _ _ _ _
   | exact laws_toMoments.mono _ _ _
   | exact spec_OrderOf.mono _ _ _
   | exact LeO.none _
   | refine LeO.ite ?_ ?_
   | refine LeO.bind ?_ (fun _ => ?_)
theorem laws_FnExactOrderOf.mono : ∀ a0 a1 k, LeO (laws_FnExactOrderOf.f k a0 a1) (laws_FnExactOrderOf.f (k + 1) a0 a1) := by
 intro a0 a1 k
 have ih0 := laws_FnExactOrderOf.mono_l k
 unfold laws_FnExactOrderOf.f
 repeat' first
   | (with_reducible exact ih0 _ _ _ _ _)
   | (with_reducible exact impl_OrderOf.mono _ _ _)
   | (with_reducible exact laws_eqMoments.mono _ _ _ _ _)
   | (with_reducible exact laws_toMoments.mono _ _ _)
   | (with_reducible exact spec_OrderOf.mono _ _ _)
   | (with_reducible exact LeO.refl _)
   | (with_reducible exact LeO.none _)
   | (with_reducible refine LeO.ite ?_ ?_)
   | (with_reducible refine LeO.bind ?_ (fun _ => ?_))
   | exact ih0 _ _ _ _ _
   | exact impl_OrderOf.mono _ _ _
   | exact laws_eqMoments.mono _ _ _ _ _
   | exact laws_toMoments.mono _ _ _
   | exact spec_OrderOf.mono _ _ _
   | exact LeO.none _
   | refine LeO.ite ?_ ?_
   | refine LeO.bind ?_ (fun _ => ?_)
set_option maxHeartbeats 8000000 in
set_option maxRecDepth 100000 in
theorem laws_FnExactOrderOf.calls (k : Nat) (a0_0 : Int) (A0_1 : Option Addr) (c0_1 : Nat) (l0_1 : List Int) (r : Bool) (hr_ : r = true) (w : World) (hr0_1 : Kd.C (Kd.int .i64) w A0_1 l0_1.length l0_1) (hc0_1 : l0_1.length ≤ c0_1) (h : laws_FnExactOrderOf.f k a0_0 l0_1 = some r) :
  Calls Try.prog 12 #[.agg #[.int .i64 a0_0, .slice A0_1 l0_1.length c0_1]] w fun e w' => e = .returned (.bool r) ∧ Below w.heap.size w w' := by
 have hu24 := Try.underlying24
 have hu31 := Try.underlying31
 have HRT := zA hr_
 clear hr_
 have HR0_1 := zA hr0_1
 have HC0_1 := zA hc0_1
 clear hr0_1 hc0_1
 have HB := zA (Below.refl w.heap.size w)
 have H : ((laws_szMoments.f a0_0 l0_1 1048576).bind fun t1310 => (if t1310 < 0 then (some true) else ((laws_toMoments.f k a0_0 l0_1).bind fun bt1311 => ((spec_OrderOf.f k bt1311.1 bt1311.2).bind fun bt1315 => ((laws_toMoments.f k a0_0 l0_1).bind fun bt1317 => ((impl_OrderOf.f k bt1317.1 bt1317.2).bind fun bt1322 => (if bt1322.1 = bt1315.1 then (laws_FnExactOrderOf.j0 k (bt1322.2 != bt1315.2) a0_0 l0_1 bt1317.1 bt1317.2) else (laws_FnExactOrderOf.j0 k true a0_0 l0_1 bt1317.1 bt1317.2)))))))) = some r := h
 clear h
 replace H := Option.bind_eq_some_iff.mp H
 obtain ⟨t1310, A20, H⟩ := H
 replace H : (if t1310 < 0 then (some true) else ((laws_toMoments.f k a0_0 l0_1).bind fun bt1311 => ((spec_OrderOf.f k bt1311.1 bt1311.2).bind fun bt1315 => ((laws_toMoments.f k a0_0 l0_1).bind fun bt1317 => ((impl_OrderOf.f k bt1317.1 bt1317.2).bind fun bt1322 => (if bt1322.1 = bt1315.1 then (laws_FnExactOrderOf.j0 k (bt1322.2 != bt1315.2) a0_0 l0_1 bt1317.1 bt1317.2) else (laws_FnExactOrderOf.j0 k true a0_0 l0_1 bt1317.1 bt1317.2))))))) = some r := H
 have A2 := zA A20
 clear A20
 by_cases c3 : t1310 < 0
 rotate_left
 ·rw [if_neg c3] at H
  have c3b0 : decide (t1310 < 0) = false := decide_eq_false c3
  clear c3
  replace H := Option.bind_eq_some_iff.mp H
  obtain ⟨⟨t1311, t1312⟩, A70, H⟩ := H
  replace H : ((spec_OrderOf.f k t1311 t1312).bind fun bt1315 => ((laws_toMoments.f k a0_0 l0_1).bind fun bt1317 => ((impl_OrderOf.f k bt1317.1 bt1317.2).bind fun bt1322 => (if bt1322.1 = bt1315.1 then (laws_FnExactOrderOf.j0 k (bt1322.2 != bt1315.2) a0_0 l0_1 bt1317.1 bt1317.2) else (laws_FnExactOrderOf.j0 k true a0_0 l0_1 bt1317.1 bt1317.2))))) = some r := H
  have A7 := zA A70
  clear A70
  replace H := Option.bind_eq_some_iff.mp H
  obtain ⟨⟨t1315, t1316⟩, A80, H⟩ := H
  replace H : ((laws_toMoments.f k a0_0 l0_1).bind fun bt1317 => ((impl_OrderOf.f k bt1317.1 bt1317.2).bind fun bt1322 => (if bt1322.1 = t1315 then (laws_FnExactOrderOf.j0 k (bt1322.2 != t1316) a0_0 l0_1 bt1317.1 bt1317.2) else (laws_FnExactOrderOf.j0 k true a0_0 l0_1 bt1317.1 bt1317.2)))) = some r := H
  have A8 := zA A80
  clear A80
  replace H := Option.bind_eq_some_iff.mp H
  obtain ⟨⟨t1317, t1318⟩, A90, H⟩ := H
  replace H : ((impl_OrderOf.f k t1317 t1318).bind fun bt1322 => (if bt1322.1 = t1315 then (laws_FnExactOrderOf.j0 k (bt1322.2 != t1316) a0_0 l0_1 t1317 t1318) else (laws_FnExactOrderOf.j0 k true a0_0 l0_1 t1317 t1318))) = some r := H
  have A9 := zA A90
  clear A90
  replace H := Option.bind_eq_some_iff.mp H
  obtain ⟨⟨t1322, t1323⟩, A100, H⟩ := H
  replace H : (if t1322 = t1315 then (laws_FnExactOrderOf.j0 k (t1323 != t1316) a0_0 l0_1 t1317 t1318) else (laws_FnExactOrderOf.j0 k true a0_0 l0_1 t1317 t1318)) = some r := H
  have A10 := zA A100
  clear A100
  have HC11 := zA H
  clear H
  go_enter Try.func12, Try.ntmps12
  go_upto_region 8 with (first | ((with_reducible refine gate_dst (N := 1) rfl ?_); refine bx 1 #[.int .i64 a0_0, .slice A0_1 l0_1.length c0_1] 24 ?_; intro gb1309 hg w12 hbox hb; have BK1309 := zA (hbox); have GW1309 := gq HB hg; have GE1309 := gq HB hg; replace HB := xH HB hb; have := geI GE1309; clear hb hbox hg; have hcz13_0 := bc BK1309 0; have hcz13_1 := bc BK1309 1; have hfz13_0 := bf BK1309 0; have hfz13_1 := bf BK1309 1) | ((with_reducible refine gate_callee (f := 15) rfl ?_); refine gL (some 11) Try.func15 #[.agg #[.int .i64 a0_0, .slice A0_1 l0_1.length c0_1], .int .i64 1048576] ?_; (with_reducible refine (laws_szMoments.calls a0_0 _ _ l0_1 1048576 t1310 _ ?side1 ?side2 A2.out).mono ?_); (case side1 => exact uC ((Kd.C_below HR0_1.out HB.out))); (case side2 => exact HC0_1.out); rintro e w14 ⟨rfl, hb⟩; refine ⟨_, rfl, ?_⟩; replace BK1309 := xB BK1309 hb; replace HB := xH HB hb; (try clear hb); (try clear hb2); (try clear hk); (try clear hi); have hcz15_0 := bc BK1309 0; have hcz15_1 := bc BK1309 1; have hfz15_0 := bf BK1309 0; have hfz15_1 := bf BK1309 1) | ((with_reducible refine gate_callee (f := 18) rfl ?_); refine gL (some 16) Try.func18 #[.agg #[.int .i64 a0_0, .slice A0_1 l0_1.length c0_1]] ?_; (with_reducible refine (laws_toMoments.calls k a0_0 _ _ l0_1 t1311 t1312 _ ?side1 ?side2 A7.out).mono ?_); (case side1 => exact uC ((Kd.C_below HR0_1.out HB.out))); (case side2 => exact HC0_1.out); rintro e w16 ⟨v1313, rfl, ho0, hb⟩; refine ⟨_, rfl, ?_⟩; have HO1314 := zA (Kd.R_lower ho0 (below_size (uH HB.out))); replace BK1309 := xB BK1309 hb; replace HB := xH HB hb; (try clear hb); (try clear hb2); (try clear hk); (try clear hi); (try clear ho0); obtain ⟨Ao17, co17, eo17⟩ := Kd.R_slice HO1314.out; subst eo17) | ((with_reducible refine gate_callee (f := 50) rfl ?_); refine gL (some 17) Try.func50 #[.agg #[.int .i64 t1311, .slice Ao17 t1312.length co17]] ?_; (with_reducible refine (spec_OrderOf.calls k t1311 _ _ t1312 t1315 t1316 _ ?side1 ?side2 A8.out).mono ?_); (case side1 => exact uC ((Kd.R_reads' HO1314.out).2.2)); (case side2 => exact (Kd.R_reads' HO1314.out).2.1); rintro e w18 ⟨rfl, hb⟩; refine ⟨_, rfl, ?_⟩; replace HO1314 := xR HO1314 hb; replace BK1309 := xB BK1309 hb; replace HB := xH HB hb; (try clear hb); (try clear hb2); (try clear hk); (try clear hi); have hcz19_0 := bc BK1309 0; have hcz19_1 := bc BK1309 1; have hfz19_0 := bf BK1309 0; have hfz19_1 := bf BK1309 1) | ((with_reducible refine gate_callee (f := 18) rfl ?_); refine gL (some 21) Try.func18 #[.agg #[.int .i64 a0_0, .slice A0_1 l0_1.length c0_1]] ?_; (with_reducible refine (laws_toMoments.calls k a0_0 _ _ l0_1 t1317 t1318 _ ?side1 ?side2 A9.out).mono ?_); (case side1 => exact uC ((Kd.C_below HR0_1.out HB.out))); (case side2 => exact HC0_1.out); rintro e w20 ⟨v1319, rfl, ho0, hb⟩; refine ⟨_, rfl, ?_⟩; have HO1320 := zA (Kd.R_lower (Kd.R_new' ho0 (Kd.R_lt (uR HO1314.out))) (below_size (uH HB.out))); replace HO1314 := zA (Kd.R_elder' (uR HO1314.out) (Kd.R_base ho0) hb); replace BK1309 := xB BK1309 hb; replace HB := xH HB hb; (try clear hb); (try clear hb2); (try clear hk); (try clear hi); (try clear ho0)) | ((with_reducible refine gate_dst (N := 6) rfl ?_); refine bx 6 #[.int .i64 0, .slice none 0 0] 31 ?_; intro gb1321 hg w21 hbox hb; replace HO1314 := xR HO1314 hb; replace HO1320 := xR HO1320 hb; have BK1321 := zA (hbox); have GW1321 := gq HB hg; have GE1321 := gq HB hg; replace HB := xH HB hb; have NB1309_1321 := zA ((by rw [hg]; exact neL BK1309 : gb1309 ≠ gb1321)); have NB1321_1309 := zA ((by rw [hg]; exact neG BK1309 : gb1321 ≠ gb1309)); replace BK1309 := xB BK1309 hb; have := geI GE1321; clear hb hbox hg; have hnb22 := NB1321_1309.out; have hnc22 := NB1309_1321.out; have hcz23_0 := bc BK1321 0; have hcz23_1 := bc BK1321 1; have hfz23_0 := bf BK1321 0; have hfz23_1 := bf BK1321 1; obtain ⟨Ao24, co24, eo24⟩ := Kd.R_slice HO1320.out; subst eo24) | ((with_reducible refine gate_callee (f := 51) rfl ?_); refine gL (some 24) Try.func51 #[.agg #[.int .i64 t1317, .slice Ao24 t1318.length co24]] ?_; (with_reducible refine (impl_OrderOf.calls k t1317 _ _ t1318 t1322 t1323 _ ?side1 ?side2 A10.out).mono ?_); (case side1 => refine (Kd.R_reads' (e := 2) (base := w.heap.size) (ok := fun k_ => (True ∧ ax k_ (.slice Ao17 t1312.length co17))) (n := t1318.length) (c := co24) ?_).2.2; exact (uR ((rf2 HO1320 BK1321 (by decide) (.int .i64 t1317) (.slice Ao24 t1318.length co24))))); (case side2 => exact (Kd.R_reads' HO1320.out).2.1); rintro e w25 ⟨rfl, hb⟩; refine ⟨_, rfl, ?_⟩; replace HO1314 := zA (Kd.R_below (uR ((rf2 HO1314 BK1321 (by decide) (.int .i64 t1317) (.slice Ao24 t1318.length co24)))) hb); replace HO1320 := zA (Kd.R_below (uR ((rf2 HO1320 BK1321 (by decide) (.int .i64 t1317) (.slice Ao24 t1318.length co24)))) hb); replace BK1309 := zA (blk_below (g := gb1309) (o := .cells #[.int .i64 a0_0, .slice A0_1 l0_1.length c0_1] 24 (0, 0)) (by (repeat refine up1 ?_); refine blk_far ?_ NB1309_1321.out _; (repeat refine up1 ?_); refine blk_far ?_ NB1309_1321.out _; (repeat refine up1 ?_); exact BK1309.out) hb); replace BK1321 := zA (blk_below (g := gb1321) (o := .cells #[.int .i64 t1317, .slice Ao24 t1318.length co24] 31 (0, 0)) (by (repeat refine up1 ?_); refine blk_put (cs := #[.int .i64 t1317, .slice none 0 0]) ?_ 1 _ rfl; (repeat refine up1 ?_); refine blk_put (cs := #[.int .i64 0, .slice none 0 0]) ?_ 0 _ rfl; (repeat refine up1 ?_); exact BK1321.out) hb); replace HB := xH HB hb; (try clear hb); (try clear hb2); (try clear hk); (try clear hi)))
  (try simp only [Act.put, ls, lz, ln])
  go_cut [34] (fun v34 wc => ∃ (kq : Nat) (x34_10 : Bool), v34 = .bool x34_10 ∧ Aside0 (laws_FnExactOrderOf.j0 kq x34_10 a0_0 l0_1 t1317 t1318 = some r) ∧ Aside0 (kq ≤ k) ∧ Aside0 (Kd.R (Kd.int .i64) 2 wc w.heap.size (fun _ => True) (.slice Ao24 t1318.length co24) t1318) ∧ Aside0 (wc.heap[gb1309]? = some (.cells #[.int .i64 a0_0, (.slice A0_1 l0_1.length c0_1)] 24 (0, 0))) ∧ Aside0 (wc.heap[gb1321]? = some (.cells #[.int .i64 t1317, (.slice Ao24 t1318.length co24)] 31 (0, 0))) ∧ Aside0 (Below w.heap.size w wc))
  case first =>
   have H := HC11.out
   clear HC11
   by_cases c26 : t1322 = t1315
   rotate_left
   ·rw [if_neg c26] at H
    have c26b0 : (t1322 == t1315) = false := beq_eq_false_iff_ne.mpr c26
    have c26b1 : (t1322 != t1315) = true := bne_iff_ne.mpr c26
    (first | rw [c26b0] | (simp only [i64_w, i32_w]; rw [c26b0]) | skip)
    have H' := zA H
    clear H
    go_wp2
    go_meet
    case rel => exact ⟨_, (true), (by first | rfl | (simp; done) | (simp [*]; done)), H', ⟨by first | omega | exact Nat.le_refl _⟩, ⟨uR (Kd.R_mono HO1320.out (fun _ hk => trivial))⟩, ⟨uB BK1309.out⟩, ⟨uB BK1321.out⟩, ⟨uH HB.out⟩⟩
   rw [if_pos c26] at H
   have c26b0 : (t1322 == t1315) = true := beq_iff_eq.mpr c26
   have c26b1 : (t1322 != t1315) = false := bne_eq_false_iff_eq.mpr c26
   clear c26
   (first | rw [c26b0] | (simp only [i64_w, i32_w]; rw [c26b0]) | skip)
   have H' := zA H
   clear H
   go_wp2
   go_meet
   case rel => exact ⟨_, ((t1323 != t1316)), (by first | rfl | (simp; done) | (simp [*]; done)), H', ⟨by first | omega | exact Nat.le_refl _⟩, ⟨uR (Kd.R_mono HO1320.out (fun _ hk => trivial))⟩, ⟨uB BK1309.out⟩, ⟨uB BK1321.out⟩, ⟨uH HB.out⟩⟩
  case rest =>
   clear HC11
   (try clear c1);(try clear c2);(try clear p2);(try clear c3);(try clear c3b0);(try clear c5);(try clear c12);(try clear c15);(try clear c18);(try clear c22);(try clear c26);(try clear c26b0);(try clear c26b1);(try clear hcz13_0);(try clear hcz13_1);(try clear hcz15_0);(try clear hcz15_1);(try clear hcz19_0);(try clear hcz19_1);(try clear hcz23_0);(try clear hcz23_1);(try clear hcz5_0);(try clear hcz5_1)
   (try clear hfz13_0);(try clear hfz13_1);(try clear hfz15_0);(try clear hfz15_1);(try clear hfz19_0);(try clear hfz19_1);(try clear hfz23_0);(try clear hfz23_1);(try clear hfz5_0);(try clear hfz5_1)
   obtain ⟨kq, x34_10, rfl, HA, HJ10, HO_1322001, BK1309, BK1321, HB⟩ := hcut
   cases kq with
   | zero => exact absurd HA.out (by simp [laws_FnExactOrderOf.j0])
   | succ kj10 =>
    have H := HA.out
    clear HA
    simp only [laws_FnExactOrderOf.j0] at H
    by_cases c27 : x34_10 = true
    ·subst c27
     have H1 : (some false) = some r := by rw [if_pos rfl] at H; exact H
     clear H
     have H := H1
     clear H1
     rw [HRT.out] at H
     exact absurd H (by simp)
    ·replace c27 := Bool.eq_false_iff.mpr c27
     subst c27
     have H1 : ((laws_toMoments.f kj10 a0_0 l0_1).bind fun bt1324 => ((laws_eqMoments.f kj10 t1317 t1318 bt1324.1 bt1324.2).bind fun t1328 => (if t1328 = true then (some true) else (some false)))) = some r := by rw [if_neg (show ¬ (false = true) by decide)] at H; exact H
     clear H
     have H := H1
     clear H1
     replace H := Option.bind_eq_some_iff.mp H
     obtain ⟨⟨t1324, t1325⟩, A280, H⟩ := H
     replace H : ((laws_eqMoments.f kj10 t1317 t1318 t1324 t1325).bind fun t1328 => (if t1328 = true then (some true) else (some false))) = some r := H
     have A28 := zA A280
     clear A280
     replace H := Option.bind_eq_some_iff.mp H
     obtain ⟨t1328, A290, H⟩ := H
     replace H : (if t1328 = true then (some true) else (some false)) = some r := H
     have A29 := zA A290
     clear A290
     by_cases c30 : t1328 = true
     ·subst c30
      have H1 : (some true) = some r := by rw [if_pos rfl] at H; exact H
      clear H
      have H := H1
      clear H1
      obtain rfl := Option.some.inj H
      try go_wp2
      replace HO_1322001 := zA (Kd.R_drew HO_1322001.out)
      replace BK1309 := zA (blk_drew BK1309.out)
      replace BK1321 := zA (blk_drew BK1321.out)
      replace HB := zA (below_drew1 HB.out)
      refine start_ (n := 5) (S := fun w' => w'.cell? ⟨gb1321, 0, none⟩ = some (.int .i64 t1317) ∧ w'.cell? ⟨gb1321, 1, none⟩ = some (.slice Ao24 t1318.length co24) ∧ w'.cell? ⟨gb1309, 0, none⟩ = some (.int .i64 a0_0) ∧ w'.cell? ⟨gb1309, 1, none⟩ = some (.slice A0_1 l0_1.length c0_1)) (ds := []) #[false, false, false, false, false] (by kernel_rfl) rfl rfl ⟨bcu BK1321 0, bcu BK1321 1, bcu BK1309 0, bcu BK1309 1⟩ (fun hHeld => ?_)
      generalize wc.drew = w31 at HO_1322001 BK1309 BK1321 HB hHeld ⊢
      refine take_ (i := 0) (N := some 35) (v := ?_) (a' := ?_) (bl 5 1) rfl rfl (by kernel_rfl) (fun _ _ _ h => h) (Or.inl ⟨by rfl, ?_⟩) hHeld ?_ ?_
      rotate_left
      ·rintro w' ⟨s0, s1, s2, s3⟩
       go_simp
       with_reducible rfl
      rotate_left
      ·simp only [Act.put, ls, lz, ln, i64_w, i32_w]
       rfl
      refine take_ (i := 1) (N := some 36) (v := ?_) (a' := ?_) (bl 5 3) rfl rfl (by kernel_rfl) (fun _ _ _ h => h) (Or.inl ⟨by rfl, ?_⟩) hHeld ?_ ?_
      rotate_left
      ·rintro w' ⟨s0, s1, s2, s3⟩
       go_simp
       with_reducible rfl
      rotate_left
      ·simp only [Act.put, ls, lz, ln, i64_w, i32_w]
       rfl
      refine one_ (i := 2) (N := some 37) (bl 5 7) rfl rfl (by kernel_rfl) (by decide) (fun K hK => ?_)
      refine gS Try.func18 #[.agg #[.int .i64 a0_0, .slice A0_1 l0_1.length c0_1]] ?_
      with_reducible refine (laws_toMoments.calls kj10 a0_0 _ _ l0_1 t1324 t1325 _ ?side1 ?side2 A28.out).mono ?_
      (case side1 => exact uC ((Kd.C_below HR0_1.out HB.out)))
      (case side2 => exact HC0_1.out)
      rintro e w32 ⟨v1326, rfl, ho0, hb⟩
      refine ⟨_, rfl, ?_⟩
      have HO1327 := zA (Kd.R_lower (Kd.R_new' ho0 (Kd.R_lt (uR HO_1322001.out))) (below_size (uH HB.out)))
      replace HO_1322001 := zA (Kd.R_elder' (uR HO_1322001.out) (Kd.R_base ho0) hb)
      replace BK1309 := xB BK1309 hb
      replace BK1321 := xB BK1321 hb
      replace HB := xH HB hb
      (try clear hb); (try clear hb2); (try clear hk); (try clear hi); (try clear ho0)
      obtain ⟨Ao33, co33, eo33⟩ := Kd.R_slice HO1327.out
      (first | subst eo33 | (injection eo33 with f1_ f2_ f3_; have f4_ := f1_.symm; have f5_ := f3_.symm; clear f1_ f2_ f3_; subst f4_; subst f5_))
      refine hK.out _ _ ⟨bcu BK1321 0, bcu BK1321 1, bcu BK1309 0, bcu BK1309 1⟩ (fun hHeld => ?_)
      clear hK K
      refine no_ 37 ?_
      refine one_ (i := 3) (N := some 38) (bl 5 15) rfl rfl (by kernel_rfl) (by decide) (fun K hK => ?_)
      refine gS Try.func22 #[.agg #[.int .i64 t1317, .slice Ao24 t1318.length co24], .agg #[.int .i64 t1324, .slice Ao33 t1325.length co33]] ?_
      with_reducible refine (laws_eqMoments.calls kj10 t1317 _ _ t1318 t1324 _ _ t1325 true _ ?side1 ?side2 ?side3 ?side4 A29.out).mono ?_
      (case side1 => exact uC ((Kd.R_reads' HO_1322001.out).2.2))
      (case side2 => exact (Kd.R_reads' HO_1322001.out).2.1)
      (case side3 => exact uC ((Kd.R_reads' HO1327.out).2.2))
      (case side4 => exact (Kd.R_reads' HO1327.out).2.1)
      rintro e w34 ⟨rfl, hb⟩
      refine ⟨_, rfl, ?_⟩
      replace HO_1322001 := xR HO_1322001 hb
      replace HO1327 := xR HO1327 hb
      replace BK1309 := xB BK1309 hb
      replace BK1321 := xB BK1321 hb
      replace HB := xH HB hb
      (try clear hb); (try clear hb2); (try clear hk); (try clear hi)
      refine hK.out _ _ ⟨bcu BK1321 0, bcu BK1321 1, bcu BK1309 0, bcu BK1309 1⟩ (fun hHeld => ?_)
      clear hK K
      refine no_ 38 ?_
      refine pure_ (i := 4) (N := some 39) (v := ?_) (a' := ?_) (bl 5 31) rfl rfl (by kernel_rfl) (fun _ _ _ h => h) (Or.inl ⟨by rfl, ?_⟩) ?_ ?_
      rotate_left
      ·intro w'
       go_simp
       with_reducible rfl
      rotate_left
      ·simp only [Act.put, ls, lz, ln, i64_w, i32_w]
       rfl
      refine done_ (by kernel_rfl) ?_
      try go_wp2
      go_ret
      exact ⟨by first | rfl | (simp [errW_none, errW_some] <;> rfl) | (simp [*, errW_none, errW_some] <;> rfl), uH HB.out⟩
     ·replace c30 := Bool.eq_false_iff.mpr c30
      subst c30
      have H1 : (some false) = some r := by rw [if_neg (show ¬ (false = true) by decide)] at H; exact H
      clear H
      have H := H1
      clear H1
      rw [HRT.out] at H
      exact absurd H (by simp)

 rw [if_pos c3] at H
 have c3b0 : decide (t1310 < 0) = true := decide_eq_true c3
 clear c3
 obtain rfl := Option.some.inj H
 go_enter Try.func12, Try.ntmps12
 go_wp2_with (first | ((with_reducible refine gate_dst (N := 1) rfl ?_); refine bx 1 #[.int .i64 a0_0, .slice A0_1 l0_1.length c0_1] 24 ?_; intro gb1309 hg w4 hbox hb; have BK1309 := zA (hbox); have GW1309 := gq HB hg; have GE1309 := gq HB hg; replace HB := xH HB hb; have := geI GE1309; clear hb hbox hg; have hcz5_0 := bc BK1309 0; have hcz5_1 := bc BK1309 1; have hfz5_0 := bf BK1309 0; have hfz5_1 := bf BK1309 1) | ((with_reducible refine gate_callee (f := 15) rfl ?_); refine gL (some 11) Try.func15 #[.agg #[.int .i64 a0_0, .slice A0_1 l0_1.length c0_1], .int .i64 1048576] ?_; (with_reducible refine (laws_szMoments.calls a0_0 _ _ l0_1 1048576 t1310 _ ?side1 ?side2 A2.out).mono ?_); (case side1 => exact uC ((Kd.C_below HR0_1.out HB.out))); (case side2 => exact HC0_1.out); rintro e w6 ⟨rfl, hb⟩; refine ⟨_, rfl, ?_⟩; replace BK1309 := xB BK1309 hb; replace HB := xH HB hb; (try clear hb); (try clear hb2); (try clear hk); (try clear hi)))
 go_ret
 exact ⟨by first | rfl | (simp [errW_none, errW_some] <;> rfl) | (simp [*, errW_none, errW_some] <;> rfl), uH HB.out⟩
/-- THE ONE PURE STATEMENT of laws_FnExactOrderOf: yours. -/
def laws_FnExactOrderOf.Pure : Prop := ∀ (a0_0 : Int) (l0_1 : List Int), (Lit.int .i64 a0_0).wf = true → l0_1.length ≤ maxLen → (∀ x ∈ l0_1, (Lit.int .i64 x).wf = true) → ∃ k, laws_FnExactOrderOf.f k a0_0 l0_1 = some true
theorem laws_FnExactOrderOf.walk (P : laws_FnExactOrderOf.Pure) (a0_0 : Int) (a0_1 : Option Addr) (len0_1 cap0_1 : Nat) (z0_1 : List Int) (w : World) (w0_0 : (Lit.int .i64 a0_0).wf = true) (w0_1 : (a0_1 = none ∧ len0_1 = 0 ∧ cap0_1 = 0 ∧ z0_1 = []) ∨ ∃ x, a0_1 = some x ∧ len0_1 ≤ cap0_1 ∧ cap0_1 ≤ maxLen ∧ z0_1.length = cap0_1 ∧ (∀ i, i < z0_1.length → w.cell? (x.add i) = some (.int .i64 (z0_1.getD i 0))) ∧ ∀ n ∈ z0_1, (Lit.int .i64 n).wf = true) :
  Calls Try.prog 12 #[.agg #[.int .i64 a0_0, .slice a0_1 len0_1 cap0_1]] w fun e w' => e = .returned (.bool true) ∧ Below w.heap.size w w' := by
 obtain ⟨l0_1, rfl, hr0_1, hm0_1, hw0_1, hc0_1⟩ := ReadsInt.ofRowC w0_1
 obtain ⟨k, h⟩ := P a0_0 l0_1 w0_0 hm0_1 hw0_1
 refine (laws_FnExactOrderOf.calls k a0_0 _ _ l0_1 true rfl w (Kd.C_of_reads (d := (0 : Int)) (h1 := fun _ => rfl) hr0_1) hc0_1 h).mono ?_
 rintro e w' ⟨rfl, hd⟩
 exact ⟨rfl, hd⟩
/- OrderOf: for all arguments the program and the reference come to one value; no condition. -/
/-- The first order from i on, d at most, behind which the Hankel determinant is 0. -/
def ordGo (p : Int) (l : List Int) : Nat → Nat → Int
  | 0, i => i
  | d + 1, i => if hankV p l (i + 1) = 0 then i else ordGo p l d (i + 1)
section
variable {p : Int} (hp : Pm p) {l : List Int} (nl : Nm p l) (hl : l.length ≤ 24)
include hp nl hl
theorem specOrd_l0 (d : Nat) : ∀ i : Nat, i + d = (l.length + 1) / 2 → Ev (fun n => spec_l02Order.l0 n (i : Int) p l) (ordGo p l d i) := by
  induction d with
  | zero =>
    intro i hi
    refine Ev.step (fun n => by rw [spec_l02Order.l0]) ?_
    rw [half_eq (by unfold Sm; omega)]
    exact Ev.neg (by omega) (Ev.now _)
  | succ d ih =>
    intro i hi
    refine Ev.step (fun n => by rw [spec_l02Order.l0]) ?_
    rw [half_eq (by unfold Sm; omega), wsucc (i := i) (n := 1000) (by omega) (by omega), ordGo]
    refine Ev.pos (by omega) (Ev.bind (specHank_ev hp nl hl (by omega)) ?_)
    by_cases h : hankV p l (i + 1) = 0
    · rw [if_pos h]; exact Ev.pos h (Ev.now _)
    · rw [if_neg h]; exact Ev.neg h (ih (i + 1) (by omega))
theorem implOrd_l0 (d : Nat) : ∀ i : Nat, i + d = (l.length + 1) / 2 → Ev (fun n => impl_Moments_order.l0 n (i : Int) p l) (ordGo p l d i) := by
  induction d with
  | zero =>
    intro i hi
    refine Ev.step (fun n => by rw [impl_Moments_order.l0]) ?_
    rw [wsucc (i := i) (n := 1000) (by omega) (by omega)]
    exact Ev.bindE (isTold_eq p (by unfold Sm; omega) _) (Ev.neg (by simp; omega) (Ev.now _))
  | succ d ih =>
    intro i hi
    refine Ev.step (fun n => by rw [impl_Moments_order.l0]) ?_
    rw [wsucc (i := i) (n := 1000) (by omega) (by omega), ordGo]
    refine Ev.bindE (isTold_eq p (by unfold Sm; omega) _) (Ev.pos (decide_eq_true (by omega)) (Ev.bind (implHank_ev hp nl hl (by omega)) ?_))
    by_cases h : hankV p l (i + 1) = 0
    · rw [if_pos h]; exact Ev.pos h (Ev.now _)
    · rw [if_neg h]; exact Ev.neg h (ih (i + 1) (by omega))
def ordV (p : Int) (l : List Int) : Int := ordGo p l ((l.length + 1) / 2) 0
theorem specOrd_ev : Ev (fun n => spec_l02Order.f n p l) (ordV p l) := specOrd_l0 hp nl hl _ 0 (by omega)
theorem implOrd_ev : Ev (fun n => impl_Moments_order.f n p l) (ordV p l) := implOrd_l0 hp nl hl _ 0 (by omega)
end
theorem OrderOf_both (p : Int) (l : List Int) (hl : Sm l.length) : ∃ v : Int × Int, Ev (fun k => spec_OrderOf.f k p l) v ∧ Ev (fun k => impl_OrderOf.f k p l) v := by
  have hc := momentsCode_ev p l hl true [] (by simp [Sm]) (fun l h => by cases h)
  by_cases h : momB p l = true
  · rw [h] at hc
    refine ⟨(ordV p l, 0), ?_, ?_⟩
    · unfold spec_OrderOf.f
      exact Ev.bind (specAre_ev p l hl) (Ev.pos h (Ev.bind (specOrd_ev (momB.pm h) (momB.nm h) (momB.len h).2) (Ev.now _)))
    · unfold impl_OrderOf.f
      exact Ev.bind hc (Ev.pos rfl (Ev.bind (implOrd_ev (momB.pm h) (momB.nm h) (momB.len h).2) (Ev.now _)))
  · rw [Bool.eq_false_iff.2 h] at hc
    refine ⟨(0, 1), ?_, ?_⟩
    · unfold spec_OrderOf.f
      exact Ev.bind (specAre_ev p l hl) (Ev.neg h (Ev.now _))
    · unfold impl_OrderOf.f
      exact Ev.bind hc (Ev.neg (by simp) (Ev.now _))
end Go.Proofs.Ytokkabgkjhpecaa.Pr
namespace Go.Proofs.Ytokkabgkjhpecaa.Pure
/- FnExactOrderOf: for every input the law answers true: the program's OrderOf and the reference's come to one value, and the law's own copies, marks and comparisons answer as they have to. No condition. -/
open Go.RowKit Go.Proofs.Ytokkabgkjhpecaa.Pr Go.Proofs.YtokkabgkjhpecaaW.PrintWords Go.Proofs.YtokkabgkjhpecaaW.PrintLast
theorem FnExactOrderOf : laws_FnExactOrderOf.Pure := by
  intro a0_0 l0_1 w0_0 ml0_1 wl0_1
  have main : Ev (fun k => laws_FnExactOrderOf.f k a0_0 l0_1) true := by
    unfold laws_FnExactOrderOf.f
    by_cases z0 : l0_1.length ≤ 1048576
    case neg => exact Ev.bindE (szMoments_no _ l0_1 (by unfold maxLen at ml0_1; omega) (1048576) (by omega) (by omega)) (Ev.pos (by omega) (Ev.now _))
    refine Ev.bindE (szMoments_yes _ l0_1 (1048576) (by omega) z0) (Ev.neg (by omega) ?_)
    have sl0_1 : Sm l0_1.length := by unfold Sm; omega
    have bw0_0 := wf64 w0_0
    obtain ⟨v, hspec, himpl⟩ := OrderOf_both a0_0 l0_1 sl0_1
    repeat' first
      | exact Ev.now _
      | refine Ev.bind hspec ?_
      | refine Ev.bind himpl ?_
      | refine Ev.bind (toMoments_ev _ _ (by first | assumption | (rw [marks_length]; assumption))) ?_
      | refine Ev.bind (eqMoments_ev _ _ (by first | assumption | (rw [marks_length]; assumption))) ?_
      | refine Ev.pos (by first | rfl | omega | (dsimp only; omega)) ?_
      | refine Ev.neg (by first | exact ne_self _ | omega | (dsimp only; omega) | decide) ?_
      | refine Ev.step (fun k => by rw [laws_FnExactOrderOf.j0]) ?_
      | refine Ev.step (fun k => by rw [laws_FnExactOrderOf.j1]) ?_
      | refine Ev.step (fun k => by rw [laws_FnExactOrderOf.j2]) ?_
      | refine Ev.step (fun k => by rw [laws_FnExactOrderOf.j3]) ?_
      | refine Ev.step (fun k => by rw [laws_FnExactOrderOf.j4]) ?_
      | refine Ev.step (fun k => by rw [laws_FnExactOrderOf.j5]) ?_
  exact main.rounds
end Go.Proofs.Ytokkabgkjhpecaa.Pure
namespace Go.Proofs.Ytokkabgkjhpecaa.fnExactOrderOf
open Go.ChangeShapes Go.WideShapes Go.ChangeAt Go.RowKit
open Go.ChangeMaps (open_string shut_string)
set_option linter.unusedVariables false
theorem own : ownKnob Try.prog.godebug = none := by kernel_rfl
theorem laidOut : laidOutB Try.prog = true := by kernel_rfl
def IsRow (k : IntKind) (w : World) (a : Option Addr) (len cap : Nat) (zs : List Int) : Prop :=
  (a = none ∧ len = 0 ∧ cap = 0 ∧ zs = []) ∨
  ∃ x, a = some x ∧ len ≤ cap ∧ cap ≤ maxLen ∧ zs.length = cap ∧ (∀ i, i < zs.length → w.cell? (x.add i) = some (.int k (zs.getD i 0))) ∧ ∀ n ∈ zs, (Lit.int k n).wf = true
set_option maxRecDepth 100000 in
theorem lifted (os : Os) (started : os.Started) (H : Type) (enc : TypeId × Value → H) :
    ReturnsInHanded {} Try.checked os 12 .any (Rows.fnExactOrderOfSpec.pre6 enc Try.prog Try.f12 Rows.fnExactOrderOfRow.domain false) (Rows.fnExactOrderOfSpec.post enc Try.prog Try.f12 false true false false) := by
  refine returnsInHanded_of_change_sized (C := Try.checked) own started (by kernel_rfl) Try.func12
    (ChangeSpec.witness6 (enc := enc) (C := Try.checked) false ⟨#[], #[.agg #[.int .i64 0, .slice none 0 0]], []⟩ 8 (by kernel_rfl) (by kernel_rfl) (by kernel_rfl) (by kernel_rfl)) ?_
  intro W base args ds gs before hval0 hW hcnd hsz0 _
  have hsz : (DataW.weightsEach Try.prog (Try.f12.params.toList ++ Rows.fnExactOrderOfSpec.plain.varTypes Try.prog) (ds ++ gs)).all (· ≤ reachBytes) = true := hsz0
  have hval : ∀ (j : Nat) t v, Try.f12.params[j]? = some t → args[j]? = some v → Value.okWide Try.prog W .any base t v := hval0
  have hW' := hW
  obtain ⟨p, q, hA0, hV, rfl, hfz, hnd⟩ := hW
  have hA : DataW.TrodAll enc Try.prog W 0 (fun _ => true) true Try.f12.params.toList args.toList ds p := hA0
  rw [Try.params12] at hA hval hsz
  obtain ⟨v0, vs0, d0, ds0, p0, q0, hargs, rfl, rfl, h0, r0⟩ := trodAll_cons hA
  obtain ⟨rfl, rfl, rfl⟩ := trodAll_nil r0
  obtain rfl : args = #[v0] := by cases args; simp_all
  obtain ⟨rfl, rfl⟩ := trodVars_none hV
  have k0 := h0
  have lt0 : ∀ x ∈ p0, x.block < W.heap.size := by obtain ⟨m, hm⟩ := k0; exact DataW.trod_lt m _ _ _ hm
  obtain ⟨c0_0, c0_1, y0_0, y0_1, n0, rfl, rfl, rfl, e0_0, e0_1⟩ := Go.Joins.open_agg2 Try.underlying24 (by kernel_rfl) (by kernel_rfl) (hval 0 24 v0 rfl rfl) h0
  obtain ⟨a0_0, f0_0, _, w0_0⟩ := DataW.trod_int Try.underlying2 e0_0
  simp only [List.cons.injEq, and_true] at f0_0
  subst f0_0
  obtain ⟨a0_1, len0_1, cap0_1, z0_1, f0_1, w0_1⟩ : ∃ a len cap zs, c0_1 = .slice a len cap ∧ IsRow .i64 W a len cap zs := by
    rcases open_ints Try.underlying22 Try.underlying2 (by kernel_rfl) e0_1 with ⟨hcs, _⟩ | ⟨x, l, c, zs, hcs, _, hl, hm, hz, _, hcell, hwz⟩
    · simp only [List.cons.injEq, and_true] at hcs
      exact ⟨none, 0, 0, [], hcs, .inl ⟨rfl, rfl, rfl, rfl⟩⟩
    · simp only [List.cons.injEq, and_true] at hcs
      exact ⟨some x, l, c, zs, hcs, .inr ⟨_, rfl, hl, hm, by simpa using hz, hcell, hwz⟩⟩
  subst f0_1
  clear hA0 hval0 hsz0 hsz
  refine (Pr.laws_FnExactOrderOf.walk Pure.FnExactOrderOf a0_0 a0_1 len0_1 cap0_1 z0_1 W w0_0 w0_1).mono fun e W' ⟨he, bel⟩ => ?_
  subst he
  exact ⟨_, rfl, _, _, _, [], _, [], hW', trodAll_mk1 (shut_bool Try.underlying4 _), (trodAll_cons_mk (Below.trod laidOut (by kernel_rfl) (of_decide_eq_true (by kernel_rfl)) k0 bel lt0) trodAll_mk0), rfl, bel.frame _, fun h => by cases h⟩
theorem over : Rows.fnExactOrderOfRow.holds Try.pinned (OpenSpec.ofChange Rows.fnExactOrderOfSpec) :=
  OpenClaim.holds_of_wide 12 Try.f12 rfl rfl rfl rfl rfl rfl rfl ⟨rfl, rfl, rfl, rfl, rfl⟩ rfl rfl rfl rfl rfl (by kernel_rfl) Try.func12 (by kernel_rfl)
    (of_decide_eq_true (by kernel_rfl)) (by unfold Func.isWrapper; first | (rw [if_pos (by decide +kernel)]; kernel_rfl) | (rw [if_neg (by decide +kernel)]; exact ⟨rfl, rfl⟩))
    (fun os started H enc _ => lifted os started H enc)
theorem proved : Rows.FnExactOrderOfSaid := over
#print axioms proved
end Go.Proofs.Ytokkabgkjhpecaa.fnExactOrderOf
namespace Go.Proofs.Ytokkabgkjhpecaa
/-- The row, under a short name, for the claim. -/
theorem fnExactOrderOf_holds : Rows.FnExactOrderOfSaid := fnExactOrderOf.proved
end Go.Proofs.Ytokkabgkjhpecaa
