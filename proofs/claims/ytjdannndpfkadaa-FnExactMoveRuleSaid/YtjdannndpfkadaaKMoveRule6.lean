/- Texts of this session in one: what functions of the program compute, and plain facts of it, under the conditions that each theorem names. -/
import Derived.Test.YtjdannndpfkadaaKMoveRule1
import Derived.Test.YtjdannndpfkadaaKMoveRule2
import Derived.Test.YtjdannndpfkadaaKMoveRule3
import Derived.Test.YtjdannndpfkadaaKMoveRule4
import Derived.Test.YtjdannndpfkadaaKMoveRule5
namespace Go.Proofs.Ytjdannndpfkadaa.Pr
open Go.RowKit Go.Proofs.YtjdannndpfkadaaW.PrintWords Go.Proofs.YtjdannndpfkadaaW.PrintLast Go.Proofs.YtjdannndpfkadaaW.PrintMore
attribute [local go_sem] max2_int min2_int max_two min_two max_three min_three max_four min_four   -- for this text's walks alone
set_option linter.unusedVariables false
set_option linter.unusedSimpArgs false
/-! ### impl_jacobiCode: function 38 -/
def impl_jacobiCode.f (k : Nat) (a0_0 : Int) (l0_1 : List Int) (l0_2 : List Int) (a1 : Bool) : Option (Int) := (impl_IsJacobi.f k a0_0 l0_1 l0_2).bind fun t175 => (if t175 = true then (if a1 = true then (some 0) else (some 2)) else (some 1))
theorem impl_jacobiCode.mono : ∀ a0 a1 a2 a3 k, LeO (impl_jacobiCode.f k a0 a1 a2 a3) (impl_jacobiCode.f (k + 1) a0 a1 a2 a3) := by
 intro a0 a1 a2 a3 k
 unfold impl_jacobiCode.f
 repeat' first
   | (with_reducible exact impl_IsJacobi.mono _ _ _ _)
   | (with_reducible exact LeO.refl _)
   | (with_reducible exact LeO.none _)
   | (with_reducible refine LeO.ite ?_ ?_)
   | (with_reducible refine LeO.bind ?_ (fun _ => ?_))
   | exact impl_IsJacobi.mono _ _ _ _
   | exact LeO.none _
   | refine LeO.ite ?_ ?_
   | refine LeO.bind ?_ (fun _ => ?_)
set_option maxHeartbeats 8000000 in
set_option maxRecDepth 100000 in
theorem impl_jacobiCode.calls (k : Nat) (a0_0 : Int) (A0_1 : Option Addr) (c0_1 : Nat) (l0_1 : List Int) (A0_2 : Option Addr) (c0_2 : Nat) (l0_2 : List Int) (a1 : Bool) (r : Int) (w : World) (hr0_1 : Kd.C (Kd.int .i64) w A0_1 l0_1.length l0_1) (hc0_1 : l0_1.length ≤ c0_1) (hr0_2 : Kd.C (Kd.int .i64) w A0_2 l0_2.length l0_2) (hc0_2 : l0_2.length ≤ c0_2) (h : impl_jacobiCode.f k a0_0 l0_1 l0_2 a1 = some r) :
  Calls Try.prog 38 #[.agg #[.int .i64 a0_0, .slice A0_1 l0_1.length c0_1, .slice A0_2 l0_2.length c0_2], .bool a1] w fun e w' => e = .returned (.int .i64 r) ∧ Below w.heap.size w w' := by
 have hu29 := Try.underlying29
 have HR0_1 := zA hr0_1
 have HC0_1 := zA hc0_1
 clear hr0_1 hc0_1
 have HR0_2 := zA hr0_2
 have HC0_2 := zA hc0_2
 clear hr0_2 hc0_2
 have HB := zA (Below.refl w.heap.size w)
 have H : ((impl_IsJacobi.f k a0_0 l0_1 l0_2).bind fun t175 => (if t175 = true then (if a1 = true then (some 0) else (some 2)) else (some 1))) = some r := h
 clear h
 replace H := Option.bind_eq_some_iff.mp H
 obtain ⟨t175, A30, H⟩ := H
 replace H : (if t175 = true then (if a1 = true then (some 0) else (some 2)) else (some 1)) = some r := H
 have A3 := zA A30
 clear A30
 by_cases c4 : t175 = true
 ·subst c4
  have H1 : (if a1 = true then (some 0) else (some 2)) = some r := by rw [if_pos rfl] at H; exact H
  clear H
  have H := H1
  clear H1
  by_cases c5 : a1 = true
  ·subst c5
   have H1 : (some 0) = some r := by rw [if_pos rfl] at H; exact H
   clear H
   have H := H1
   clear H1
   obtain rfl := Option.some.inj H
   go_enter Try.func38, Try.ntmps38
   go_wp2_with (first | ((with_reducible refine gate_dst (N := 2) rfl ?_); refine bx 2 #[.int .i64 a0_0, .slice A0_1 l0_1.length c0_1, .slice A0_2 l0_2.length c0_2] 29 ?_; intro gb174 hg w6 hbox hb; have BK174 := zA (hbox); have GW174 := gq HB hg; have GE174 := gq HB hg; replace HB := xH HB hb; have := geI GE174; clear hb hbox hg; have hcz7_0 := bc BK174 0; have hcz7_1 := bc BK174 1; have hcz7_2 := bc BK174 2; have hfz7_0 := bf BK174 0; have hfz7_1 := bf BK174 1; have hfz7_2 := bf BK174 2) | ((with_reducible refine gate_callee (f := 63) rfl ?_); refine gL (some 7) Try.func63 #[.agg #[.int .i64 a0_0, .slice A0_1 l0_1.length c0_1, .slice A0_2 l0_2.length c0_2]] ?_; (with_reducible refine (impl_IsJacobi.calls k a0_0 _ _ l0_1 _ _ l0_2 true _ ?side1 ?side2 ?side3 ?side4 A3.out).mono ?_); (case side1 => exact uC ((Kd.C_below HR0_1.out HB.out))); (case side2 => exact HC0_1.out); (case side3 => exact uC ((Kd.C_below HR0_2.out HB.out))); (case side4 => exact HC0_2.out); rintro e w8 ⟨rfl, hb⟩; refine ⟨_, rfl, ?_⟩; replace BK174 := xB BK174 hb; replace HB := xH HB hb; (try clear hb); (try clear hb2); (try clear hk); (try clear hi)))
   go_ret
   exact ⟨by first | rfl | (simp [errW_none, errW_some] <;> rfl) | (simp [*, errW_none, errW_some] <;> rfl), uH HB.out⟩
  ·replace c5 := Bool.eq_false_iff.mpr c5
   subst c5
   have H1 : (some 2) = some r := by rw [if_neg (show ¬ (false = true) by decide)] at H; exact H
   clear H
   have H := H1
   clear H1
   obtain rfl := Option.some.inj H
   go_enter Try.func38, Try.ntmps38
   go_wp2_with (first | ((with_reducible refine gate_dst (N := 2) rfl ?_); refine bx 2 #[.int .i64 a0_0, .slice A0_1 l0_1.length c0_1, .slice A0_2 l0_2.length c0_2] 29 ?_; intro gb174 hg w9 hbox hb; have BK174 := zA (hbox); have GW174 := gq HB hg; have GE174 := gq HB hg; replace HB := xH HB hb; have := geI GE174; clear hb hbox hg; have hcz10_0 := bc BK174 0; have hcz10_1 := bc BK174 1; have hcz10_2 := bc BK174 2; have hfz10_0 := bf BK174 0; have hfz10_1 := bf BK174 1; have hfz10_2 := bf BK174 2) | ((with_reducible refine gate_callee (f := 63) rfl ?_); refine gL (some 7) Try.func63 #[.agg #[.int .i64 a0_0, .slice A0_1 l0_1.length c0_1, .slice A0_2 l0_2.length c0_2]] ?_; (with_reducible refine (impl_IsJacobi.calls k a0_0 _ _ l0_1 _ _ l0_2 true _ ?side1 ?side2 ?side3 ?side4 A3.out).mono ?_); (case side1 => exact uC ((Kd.C_below HR0_1.out HB.out))); (case side2 => exact HC0_1.out); (case side3 => exact uC ((Kd.C_below HR0_2.out HB.out))); (case side4 => exact HC0_2.out); rintro e w11 ⟨rfl, hb⟩; refine ⟨_, rfl, ?_⟩; replace BK174 := xB BK174 hb; replace HB := xH HB hb; (try clear hb); (try clear hb2); (try clear hk); (try clear hi)))
   go_ret
   exact ⟨by first | rfl | (simp [errW_none, errW_some] <;> rfl) | (simp [*, errW_none, errW_some] <;> rfl), uH HB.out⟩
 ·replace c4 := Bool.eq_false_iff.mpr c4
  subst c4
  have H1 : (some 1) = some r := by rw [if_neg (show ¬ (false = true) by decide)] at H; exact H
  clear H
  have H := H1
  clear H1
  obtain rfl := Option.some.inj H
  go_enter Try.func38, Try.ntmps38
  go_wp2_with (first | ((with_reducible refine gate_dst (N := 2) rfl ?_); refine bx 2 #[.int .i64 a0_0, .slice A0_1 l0_1.length c0_1, .slice A0_2 l0_2.length c0_2] 29 ?_; intro gb174 hg w12 hbox hb; have BK174 := zA (hbox); have GW174 := gq HB hg; have GE174 := gq HB hg; replace HB := xH HB hb; have := geI GE174; clear hb hbox hg; have hcz13_0 := bc BK174 0; have hcz13_1 := bc BK174 1; have hcz13_2 := bc BK174 2; have hfz13_0 := bf BK174 0; have hfz13_1 := bf BK174 1; have hfz13_2 := bf BK174 2) | ((with_reducible refine gate_callee (f := 63) rfl ?_); refine gL (some 7) Try.func63 #[.agg #[.int .i64 a0_0, .slice A0_1 l0_1.length c0_1, .slice A0_2 l0_2.length c0_2]] ?_; (with_reducible refine (impl_IsJacobi.calls k a0_0 _ _ l0_1 _ _ l0_2 false _ ?side1 ?side2 ?side3 ?side4 A3.out).mono ?_); (case side1 => exact uC ((Kd.C_below HR0_1.out HB.out))); (case side2 => exact HC0_1.out); (case side3 => exact uC ((Kd.C_below HR0_2.out HB.out))); (case side4 => exact HC0_2.out); rintro e w14 ⟨rfl, hb⟩; refine ⟨_, rfl, ?_⟩; replace BK174 := xB BK174 hb; replace HB := xH HB hb; (try clear hb); (try clear hb2); (try clear hk); (try clear hi)))
  go_ret
  exact ⟨by first | rfl | (simp [errW_none, errW_some] <;> rfl) | (simp [*, errW_none, errW_some] <;> rfl), uH HB.out⟩
/-! ### impl_polyCode_1: function 82 -/
def impl_polyCode_1.f (l0 : List Int) (a1_0 : Int) : Option (Bool) := (impl_IsPoly.f a1_0 l0).bind fun t340 => (some t340)
set_option maxHeartbeats 8000000 in
set_option maxRecDepth 100000 in
theorem impl_polyCode_1.calls (A0 : Option Addr) (c0 : Nat) (l0 : List Int) (gc1 : Nat) (a1_0 : Int) (r : Bool) (w : World) (hr0 : Kd.C (Kd.int .i64) w A0 l0.length l0) (hc0 : l0.length ≤ c0) (hb1 : w.heap[gc1]? = some (.cells #[.int .i64 a1_0] 2 (0, 0))) (h : impl_polyCode_1.f l0 a1_0 = some r) :
  Calls Try.prog 82 #[.slice A0 l0.length c0, .pointer (some ⟨gc1, 0, none⟩)] w fun e w' => e = .returned (.bool r) ∧ Below w.heap.size w w' := by
 have HR0 := zA hr0
 have HC0 := zA hc0
 clear hr0 hc0
 have BK1 := zA hb1
 clear hb1
 have HB := zA (Below.refl w.heap.size w)
 have H : ((impl_IsPoly.f a1_0 l0).bind fun t340 => (some t340)) = some r := h
 clear h
 replace H := Option.bind_eq_some_iff.mp H
 obtain ⟨t340, A30, H⟩ := H
 replace H : (some t340) = some r := H
 have A3 := zA A30
 clear A30
 obtain rfl := Option.some.inj H
 have hcz4_0 := bc BK1 0
 have hfz4_0 := bf BK1 0
 go_enter Try.func82, Try.ntmps82
 go_wp2_with (first | ((with_reducible refine gate_callee (f := 83) rfl ?_); refine gL (some 6) Try.func83 #[.int .i64 a1_0, .slice A0 l0.length c0] ?_; (with_reducible refine (impl_IsPoly.calls a1_0 _ _ l0 t340 _ ?side1 ?side2 A3.out).mono ?_); (case side1 => exact uC HR0.out); (case side2 => exact HC0.out); rintro e w5 ⟨rfl, hb⟩; refine ⟨_, rfl, ?_⟩; replace BK1 := xB BK1 hb; replace HB := xH HB hb; (try clear hb); (try clear hb2); (try clear hk); (try clear hi)))
 go_ret
 exact ⟨by first | rfl | (simp [errW_none, errW_some] <;> rfl) | (simp [*, errW_none, errW_some] <;> rfl), uH HB.out⟩
/- Lists of lists all of whose elements answer yes: what areAll computes. -/
def impl_areAll_rows.f (l : List (List Int)) (p : List Int → Option Bool) : Option Bool := if l.length < 4611686018427387904 then allO p l else none
theorem indexFunc_rows (p : List Int → Option Bool) (l : List (List Int)) (hl : l.length < 4611686018427387904) (d : Nat) : ∀ (k i : Nat) (r : Bool), i + d = l.length → d < k → allO p (l.drop i) = some r →
    ∃ j, slices_IndexFunc_rows.l0 k l (fun z_ => impl_areAll_rows_1.f z_ p) (l.length : Int) (i : Int) = some j ∧ decide (j ≥ 0) = !r := by
  induction d with
  | zero =>
    intro k i r hi hk h
    obtain ⟨k, rfl⟩ : ∃ m, k = m + 1 := ⟨k - 1, by omega⟩
    simp only [slices_IndexFunc_rows.l0]
    rw [if_neg (by omega)]
    rw [List.drop_eq_nil_of_le (by omega)] at h
    simp only [allO, Option.some.injEq] at h
    subst h
    exact ⟨-1, rfl, rfl⟩
  | succ d ih =>
    intro k i r hi hk h
    obtain ⟨k, rfl⟩ : ∃ m, k = m + 1 := ⟨k - 1, by omega⟩
    simp only [slices_IndexFunc_rows.l0]
    rw [if_pos (by omega), if_pos (by omega), if_pos (by omega)]
    rw [drop_cons l [] i (by omega)] at h
    simp only [allO] at h
    have e : rd_L1 l (i : Int) = l.getD i [] := by simp [rd_L1]
    rw [e]
    obtain ⟨b, hb, h⟩ := Option.bind_eq_some_iff.mp h
    simp only [impl_areAll_rows_1.f, hb, Option.bind_some]
    cases b with
    | true =>
      rw [if_pos rfl] at h
      simp only [Bool.not_true, Bool.false_eq_true, if_false]
      rw [wrap_succ (n := l.length) (by omega) (by omega) hl]
      exact ih k (i + 1) r (by omega) (by omega) h
    | false =>
      simp only [Bool.false_eq_true, if_false, Option.some.injEq] at h
      subst h
      simp only [Bool.not_false, if_true]
      exact ⟨i, rfl, by simp⟩

theorem areAllK_rows {l : List (List Int)} {p : List Int → Option Bool} {r : Bool} (h : impl_areAll_rows.f l p = some r) : impl_areAll_rowsK.f (l.length + 1) l p = some r := by
  unfold impl_areAll_rows.f at h
  split at h
  · rename_i hl
    obtain ⟨j, h1, h2⟩ := indexFunc_rows p l hl l.length (l.length + 1) 0 r (by omega) (by omega) (by simpa using h)
    unfold impl_areAll_rowsK.f slices_ContainsFunc_rows.f slices_IndexFunc_rows.f
    have h1' : slices_IndexFunc_rows.l0 (l.length + 1) l (fun z_ => impl_areAll_rows_1.f z_ p) (l.length : Int) 0 = some j := h1
    rw [h1']
    simp only [Option.bind_some, h2, Bool.not_not]
  · cases h

theorem impl_areAll_rows.calls (A0 : Option Addr) (c0 : Nat) (l0 : List (List Int)) (F1 : Value) (a1 : (List Int → Option Bool)) (r : Bool) (w : World) (hr0 : Kd.C (Kd.slice 2 (Kd.int .i64)) w A0 l0.length l0) (hc0 : l0.length ≤ c0) (hF1 : FnL Try.prog w F1 a1) (h : impl_areAll_rows.f l0 a1 = some r) :
    Calls Try.prog 81 #[.slice A0 l0.length c0, F1] w fun e w' => e = .returned (.bool r) ∧ Below w.heap.size w w' :=
  impl_areAll_rowsK.calls _ A0 c0 l0 F1 a1 r w hr0 hc0 hF1 (areAllK_rows h)
/-! ### impl_polyCode: function 67 -/
def impl_polyCode.f (k : Nat) (a0 : Int) (a1 : Bool) (l2 : List (List Int)) : Option (Int) := (impl_areAll_rows.f l2 (fun z_ => impl_polyCode_1.f z_ a0)).bind fun t342 => (if t342 = true then ((impl_IsPrime.f k a0).bind fun t343 => (if t343 = true then (if a1 = true then (some 0) else (some 2)) else (some 2))) else (some 1))
theorem impl_polyCode.mono : ∀ a0 a1 a2 k, LeO (impl_polyCode.f k a0 a1 a2) (impl_polyCode.f (k + 1) a0 a1 a2) := by
 intro a0 a1 a2 k
 unfold impl_polyCode.f
 repeat' first
   | (with_reducible exact impl_IsPrime.mono _ _)
   | (with_reducible exact LeO.refl _)
   | (with_reducible exact LeO.none _)
   | (with_reducible refine LeO.ite ?_ ?_)
   | (with_reducible refine LeO.bind ?_ (fun _ => ?_))
   | exact impl_IsPrime.mono _ _
   | exact LeO.none _
   | refine LeO.ite ?_ ?_
   | refine LeO.bind ?_ (fun _ => ?_)
set_option maxHeartbeats 8000000 in
set_option maxRecDepth 100000 in
theorem impl_polyCode.calls (k : Nat) (a0 : Int) (F1 : Value) (a1 : Bool) (A2 : Option Addr) (c2 : Nat) (l2 : List (List Int)) (r : Int) (w : World) (hF1 : FnB Try.prog w F1 a1) (hr2 : Kd.C (Kd.slice 2 (Kd.int .i64)) w A2 l2.length l2) (hc2 : l2.length ≤ c2) (h : impl_polyCode.f k a0 a1 l2 = some r) :
  Calls Try.prog 67 #[.int .i64 a0, F1, .slice A2 l2.length c2] w fun e w' => e = .returned (.int .i64 r) ∧ Below w.heap.size w w' := by
 have hmf : ∀ (fn_ : Fn) (first_ cap_ : Array Value) (w_ : World), (Instr.makeFunc fn_ first_ cap_).run Try.prog w_ = .ok (.func fn_ first_ cap_) w_ := fun _ _ _ _ => rfl
 obtain ⟨G1, fi1, ca1, rfl, hen1, hF1⟩ := hF1
 have hen1 : ∀ (args_ : Array Value) (w_ : World), (callFunc G1 args_).run Try.prog w_ = .ok (.enter G1 args_) w_ := hen1
 have HF1 := zA hF1
 clear hF1
 have HR2 := zA hr2
 have HC2 := zA hc2
 clear hr2 hc2
 have HB := zA (Below.refl w.heap.size w)
 have H : ((impl_areAll_rows.f l2 (fun z_ => impl_polyCode_1.f z_ a0)).bind fun t342 => (if t342 = true then ((impl_IsPrime.f k a0).bind fun t343 => (if t343 = true then (if a1 = true then (some 0) else (some 2)) else (some 2))) else (some 1))) = some r := h
 clear h
 replace H := Option.bind_eq_some_iff.mp H
 obtain ⟨t342, A40, H⟩ := H
 replace H : (if t342 = true then ((impl_IsPrime.f k a0).bind fun t343 => (if t343 = true then (if a1 = true then (some 0) else (some 2)) else (some 2))) else (some 1)) = some r := H
 have A4 := zA A40
 clear A40
 by_cases c5 : t342 = true
 ·subst c5
  have H1 : ((impl_IsPrime.f k a0).bind fun t343 => (if t343 = true then (if a1 = true then (some 0) else (some 2)) else (some 2))) = some r := by rw [if_pos rfl] at H; exact H
  clear H
  have H := H1
  clear H1
  replace H := Option.bind_eq_some_iff.mp H
  obtain ⟨t343, A60, H⟩ := H
  replace H : (if t343 = true then (if a1 = true then (some 0) else (some 2)) else (some 2)) = some r := H
  have A6 := zA A60
  clear A60
  by_cases c7 : t343 = true
  ·subst c7
   have H1 : (if a1 = true then (some 0) else (some 2)) = some r := by rw [if_pos rfl] at H; exact H
   clear H
   have H := H1
   clear H1
   by_cases c8 : a1 = true
   ·subst c8
    have H1 : (some 0) = some r := by rw [if_pos rfl] at H; exact H
    clear H
    have H := H1
    clear H1
    obtain rfl := Option.some.inj H
    go_enter Try.func67, Try.ntmps67
    go_wp2_with (first | ((with_reducible refine gate_dst (N := 3) rfl ?_); refine bx 3 #[.int .i64 a0] 2 ?_; intro gb341 hg w9 hbox hb; have BK341 := zA (hbox); have GW341 := gq HB hg; have GE341 := gq HB hg; replace HB := xH HB hb; have := geI GE341; clear hb hbox hg) | ((with_reducible refine gate_callee (f := 81) rfl ?_); refine gL (some 10) Try.func81 #[.slice A2 l2.length c2, (.func (.func 82) #[] #[.pointer (some ⟨gb341, 0, none⟩)])] ?_; (with_reducible refine (impl_areAll_rows.calls _ _ l2 _ (fun z_ => impl_polyCode_1.f z_ a0) true _ ?side1 ?side2 ?side3 A4.out).mono ?_); (case side1 => exact uC ((Kd.C_below HR2.out HB.out))); (case side2 => exact HC2.out); (case side3 => exact FnL.of Try.func82 (by kernel_rfl) rfl (fun z_ r_ A_ c_ hr_ W_ hW_ hC_ hc_ => calls_of_args (args' := #[.slice A_ z_.length c_, .pointer (some ⟨gb341, 0, none⟩)]) (by simp) ((impl_polyCode_1.calls A_ c_ z_ _ a0 r_ W_ hC_ hc_ (blk_below (g := gb341) (o := .cells #[.int .i64 a0] 2 (0, 0)) (uB BK341.out) hW_) hr_).mono fun e_ W2_ h_ => ⟨h_.1, h_.2⟩))); rintro e w10 ⟨rfl, hb⟩; refine ⟨_, rfl, ?_⟩; replace BK341 := xB BK341 hb; replace HB := xH HB hb; (try clear hb); (try clear hb2); (try clear hk); (try clear hi); have hcz11_0 := bc BK341 0; have hfz11_0 := bf BK341 0) | ((with_reducible refine gate_callee (f := 77) rfl ?_); refine gL (some 14) Try.func77 #[.int .i64 a0] ?_; (with_reducible refine (impl_IsPrime.calls k a0 true _ A6.out).mono ?_); rintro e w' ⟨rfl, ⟨nd, rfl⟩⟩; refine ⟨_, rfl, ?_⟩) | (go_at_fn G1; refine calls_of_args (args' := fi1 ++ ca1) (by simp) ?_; refine (HF1.out _ (uH HB.out)).mono ?_; rintro e w12 ⟨rfl, hb⟩; replace BK341 := xB BK341 hb; replace HB := xH HB hb; (try clear hb)))
    go_ret
    exact ⟨by first | rfl | (simp [errW_none, errW_some] <;> rfl) | (simp [*, errW_none, errW_some] <;> rfl), uH HB.out⟩
   ·replace c8 := Bool.eq_false_iff.mpr c8
    subst c8
    have H1 : (some 2) = some r := by rw [if_neg (show ¬ (false = true) by decide)] at H; exact H
    clear H
    have H := H1
    clear H1
    obtain rfl := Option.some.inj H
    go_enter Try.func67, Try.ntmps67
    go_wp2_with (first | ((with_reducible refine gate_dst (N := 3) rfl ?_); refine bx 3 #[.int .i64 a0] 2 ?_; intro gb341 hg w13 hbox hb; have BK341 := zA (hbox); have GW341 := gq HB hg; have GE341 := gq HB hg; replace HB := xH HB hb; have := geI GE341; clear hb hbox hg) | ((with_reducible refine gate_callee (f := 81) rfl ?_); refine gL (some 10) Try.func81 #[.slice A2 l2.length c2, (.func (.func 82) #[] #[.pointer (some ⟨gb341, 0, none⟩)])] ?_; (with_reducible refine (impl_areAll_rows.calls _ _ l2 _ (fun z_ => impl_polyCode_1.f z_ a0) true _ ?side1 ?side2 ?side3 A4.out).mono ?_); (case side1 => exact uC ((Kd.C_below HR2.out HB.out))); (case side2 => exact HC2.out); (case side3 => exact FnL.of Try.func82 (by kernel_rfl) rfl (fun z_ r_ A_ c_ hr_ W_ hW_ hC_ hc_ => calls_of_args (args' := #[.slice A_ z_.length c_, .pointer (some ⟨gb341, 0, none⟩)]) (by simp) ((impl_polyCode_1.calls A_ c_ z_ _ a0 r_ W_ hC_ hc_ (blk_below (g := gb341) (o := .cells #[.int .i64 a0] 2 (0, 0)) (uB BK341.out) hW_) hr_).mono fun e_ W2_ h_ => ⟨h_.1, h_.2⟩))); rintro e w14 ⟨rfl, hb⟩; refine ⟨_, rfl, ?_⟩; replace BK341 := xB BK341 hb; replace HB := xH HB hb; (try clear hb); (try clear hb2); (try clear hk); (try clear hi); have hcz15_0 := bc BK341 0; have hfz15_0 := bf BK341 0) | ((with_reducible refine gate_callee (f := 77) rfl ?_); refine gL (some 14) Try.func77 #[.int .i64 a0] ?_; (with_reducible refine (impl_IsPrime.calls k a0 true _ A6.out).mono ?_); rintro e w' ⟨rfl, ⟨nd, rfl⟩⟩; refine ⟨_, rfl, ?_⟩) | (go_at_fn G1; refine calls_of_args (args' := fi1 ++ ca1) (by simp) ?_; refine (HF1.out _ (uH HB.out)).mono ?_; rintro e w16 ⟨rfl, hb⟩; replace BK341 := xB BK341 hb; replace HB := xH HB hb; (try clear hb)))
    go_ret
    exact ⟨by first | rfl | (simp [errW_none, errW_some] <;> rfl) | (simp [*, errW_none, errW_some] <;> rfl), uH HB.out⟩
  ·replace c7 := Bool.eq_false_iff.mpr c7
   subst c7
   have H1 : (some 2) = some r := by rw [if_neg (show ¬ (false = true) by decide)] at H; exact H
   clear H
   have H := H1
   clear H1
   obtain rfl := Option.some.inj H
   go_enter Try.func67, Try.ntmps67
   go_wp2_with (first | ((with_reducible refine gate_dst (N := 3) rfl ?_); refine bx 3 #[.int .i64 a0] 2 ?_; intro gb341 hg w17 hbox hb; have BK341 := zA (hbox); have GW341 := gq HB hg; have GE341 := gq HB hg; replace HB := xH HB hb; have := geI GE341; clear hb hbox hg) | ((with_reducible refine gate_callee (f := 81) rfl ?_); refine gL (some 10) Try.func81 #[.slice A2 l2.length c2, (.func (.func 82) #[] #[.pointer (some ⟨gb341, 0, none⟩)])] ?_; (with_reducible refine (impl_areAll_rows.calls _ _ l2 _ (fun z_ => impl_polyCode_1.f z_ a0) true _ ?side1 ?side2 ?side3 A4.out).mono ?_); (case side1 => exact uC ((Kd.C_below HR2.out HB.out))); (case side2 => exact HC2.out); (case side3 => exact FnL.of Try.func82 (by kernel_rfl) rfl (fun z_ r_ A_ c_ hr_ W_ hW_ hC_ hc_ => calls_of_args (args' := #[.slice A_ z_.length c_, .pointer (some ⟨gb341, 0, none⟩)]) (by simp) ((impl_polyCode_1.calls A_ c_ z_ _ a0 r_ W_ hC_ hc_ (blk_below (g := gb341) (o := .cells #[.int .i64 a0] 2 (0, 0)) (uB BK341.out) hW_) hr_).mono fun e_ W2_ h_ => ⟨h_.1, h_.2⟩))); rintro e w18 ⟨rfl, hb⟩; refine ⟨_, rfl, ?_⟩; replace BK341 := xB BK341 hb; replace HB := xH HB hb; (try clear hb); (try clear hb2); (try clear hk); (try clear hi); have hcz19_0 := bc BK341 0; have hfz19_0 := bf BK341 0) | ((with_reducible refine gate_callee (f := 77) rfl ?_); refine gL (some 14) Try.func77 #[.int .i64 a0] ?_; (with_reducible refine (impl_IsPrime.calls k a0 false _ A6.out).mono ?_); rintro e w' ⟨rfl, ⟨nd, rfl⟩⟩; refine ⟨_, rfl, ?_⟩))
   go_ret
   exact ⟨by first | rfl | (simp [errW_none, errW_some] <;> rfl) | (simp [*, errW_none, errW_some] <;> rfl), uH HB.out⟩
 ·replace c5 := Bool.eq_false_iff.mpr c5
  subst c5
  have H1 : (some 1) = some r := by rw [if_neg (show ¬ (false = true) by decide)] at H; exact H
  clear H
  have H := H1
  clear H1
  obtain rfl := Option.some.inj H
  go_enter Try.func67, Try.ntmps67
  go_wp2_with (first | ((with_reducible refine gate_dst (N := 3) rfl ?_); refine bx 3 #[.int .i64 a0] 2 ?_; intro gb341 hg w20 hbox hb; have BK341 := zA (hbox); have GW341 := gq HB hg; have GE341 := gq HB hg; replace HB := xH HB hb; have := geI GE341; clear hb hbox hg) | ((with_reducible refine gate_callee (f := 81) rfl ?_); refine gL (some 10) Try.func81 #[.slice A2 l2.length c2, (.func (.func 82) #[] #[.pointer (some ⟨gb341, 0, none⟩)])] ?_; (with_reducible refine (impl_areAll_rows.calls _ _ l2 _ (fun z_ => impl_polyCode_1.f z_ a0) false _ ?side1 ?side2 ?side3 A4.out).mono ?_); (case side1 => exact uC ((Kd.C_below HR2.out HB.out))); (case side2 => exact HC2.out); (case side3 => exact FnL.of Try.func82 (by kernel_rfl) rfl (fun z_ r_ A_ c_ hr_ W_ hW_ hC_ hc_ => calls_of_args (args' := #[.slice A_ z_.length c_, .pointer (some ⟨gb341, 0, none⟩)]) (by simp) ((impl_polyCode_1.calls A_ c_ z_ _ a0 r_ W_ hC_ hc_ (blk_below (g := gb341) (o := .cells #[.int .i64 a0] 2 (0, 0)) (uB BK341.out) hW_) hr_).mono fun e_ W2_ h_ => ⟨h_.1, h_.2⟩))); rintro e w21 ⟨rfl, hb⟩; refine ⟨_, rfl, ?_⟩; replace BK341 := xB BK341 hb; replace HB := xH HB hb; (try clear hb); (try clear hb2); (try clear hk); (try clear hi)))
  go_ret
  exact ⟨by first | rfl | (simp [errW_none, errW_some] <;> rfl) | (simp [*, errW_none, errW_some] <;> rfl), uH HB.out⟩
/-! ### impl_ruleCode: function 59 -/
def impl_ruleCode.f (k : Nat) (a0_0 : Int) (l0_1 : List Int) (l0_2 : List Int) (a1 : Bool) (l2 : List (List Int)) : Option (Int) := (impl_IsRule.f k a0_0 l0_1 l0_2).bind fun t681 => (if t681 = true then ((impl_polyCode.f k a0_0 a1 l2).bind fun t682 => (some t682)) else (some 1))
theorem impl_ruleCode.mono : ∀ a0 a1 a2 a3 a4 k, LeO (impl_ruleCode.f k a0 a1 a2 a3 a4) (impl_ruleCode.f (k + 1) a0 a1 a2 a3 a4) := by
 intro a0 a1 a2 a3 a4 k
 unfold impl_ruleCode.f
 repeat' first
   | (with_reducible exact impl_IsRule.mono _ _ _ _)
   | (with_reducible exact impl_polyCode.mono _ _ _ _)
   | (with_reducible exact LeO.refl _)
   | (with_reducible exact LeO.none _)
   | (with_reducible refine LeO.ite ?_ ?_)
   | (with_reducible refine LeO.bind ?_ (fun _ => ?_))
   | exact impl_IsRule.mono _ _ _ _
   | exact impl_polyCode.mono _ _ _ _
   | exact LeO.none _
   | refine LeO.ite ?_ ?_
   | refine LeO.bind ?_ (fun _ => ?_)
set_option maxHeartbeats 8000000 in
set_option maxRecDepth 100000 in
theorem impl_ruleCode.calls (k : Nat) (a0_0 : Int) (A0_1 : Option Addr) (c0_1 : Nat) (l0_1 : List Int) (A0_2 : Option Addr) (c0_2 : Nat) (l0_2 : List Int) (F1 : Value) (a1 : Bool) (A2 : Option Addr) (c2 : Nat) (l2 : List (List Int)) (r : Int) (w : World) (hr0_1 : Kd.C (Kd.int .i64) w A0_1 l0_1.length l0_1) (hc0_1 : l0_1.length ≤ c0_1) (hr0_2 : Kd.C (Kd.int .i64) w A0_2 l0_2.length l0_2) (hc0_2 : l0_2.length ≤ c0_2) (hF1 : FnB Try.prog w F1 a1) (hr2 : Kd.C (Kd.slice 2 (Kd.int .i64)) w A2 l2.length l2) (hc2 : l2.length ≤ c2) (h : impl_ruleCode.f k a0_0 l0_1 l0_2 a1 l2 = some r) :
  Calls Try.prog 59 #[.agg #[.int .i64 a0_0, .slice A0_1 l0_1.length c0_1, .slice A0_2 l0_2.length c0_2], F1, .slice A2 l2.length c2] w fun e w' => e = .returned (.int .i64 r) ∧ Below w.heap.size w w' := by
 have hu51 := Try.underlying51
 have HR0_1 := zA hr0_1
 have HC0_1 := zA hc0_1
 clear hr0_1 hc0_1
 have HR0_2 := zA hr0_2
 have HC0_2 := zA hc0_2
 clear hr0_2 hc0_2
 obtain ⟨G1, fi1, ca1, rfl, hen1, hF1⟩ := hF1
 have hen1 : ∀ (args_ : Array Value) (w_ : World), (callFunc G1 args_).run Try.prog w_ = .ok (.enter G1 args_) w_ := hen1
 have HF1 := zA hF1
 clear hF1
 have HR2 := zA hr2
 have HC2 := zA hc2
 clear hr2 hc2
 have HB := zA (Below.refl w.heap.size w)
 have H : ((impl_IsRule.f k a0_0 l0_1 l0_2).bind fun t681 => (if t681 = true then ((impl_polyCode.f k a0_0 a1 l2).bind fun t682 => (some t682)) else (some 1))) = some r := h
 clear h
 replace H := Option.bind_eq_some_iff.mp H
 obtain ⟨t681, A40, H⟩ := H
 replace H : (if t681 = true then ((impl_polyCode.f k a0_0 a1 l2).bind fun t682 => (some t682)) else (some 1)) = some r := H
 have A4 := zA A40
 clear A40
 by_cases c5 : t681 = true
 ·subst c5
  have H1 : ((impl_polyCode.f k a0_0 a1 l2).bind fun t682 => (some t682)) = some r := by rw [if_pos rfl] at H; exact H
  clear H
  have H := H1
  clear H1
  replace H := Option.bind_eq_some_iff.mp H
  obtain ⟨t682, A60, H⟩ := H
  replace H : (some t682) = some r := H
  have A6 := zA A60
  clear A60
  obtain rfl := Option.some.inj H
  go_enter Try.func59, Try.ntmps59
  go_wp2_with (first | ((with_reducible refine gate_dst (N := 3) rfl ?_); refine bx 3 #[.int .i64 a0_0, .slice A0_1 l0_1.length c0_1, .slice A0_2 l0_2.length c0_2] 51 ?_; intro gb680 hg w7 hbox hb; have BK680 := zA (hbox); have GW680 := gq HB hg; have GE680 := gq HB hg; replace HB := xH HB hb; have := geI GE680; clear hb hbox hg; have hcz8_0 := bc BK680 0; have hcz8_1 := bc BK680 1; have hcz8_2 := bc BK680 2; have hfz8_0 := bf BK680 0; have hfz8_1 := bf BK680 1; have hfz8_2 := bf BK680 2) | ((with_reducible refine gate_callee (f := 55) rfl ?_); refine gL (some 8) Try.func55 #[.agg #[.int .i64 a0_0, .slice A0_1 l0_1.length c0_1, .slice A0_2 l0_2.length c0_2]] ?_; (with_reducible refine (impl_IsRule.calls k a0_0 _ _ l0_1 _ _ l0_2 true _ ?side1 ?side2 ?side3 ?side4 A4.out).mono ?_); (case side1 => exact uC ((Kd.C_below HR0_1.out HB.out))); (case side2 => exact HC0_1.out); (case side3 => exact uC ((Kd.C_below HR0_2.out HB.out))); (case side4 => exact HC0_2.out); rintro e w9 ⟨rfl, hb⟩; refine ⟨_, rfl, ?_⟩; replace BK680 := xB BK680 hb; replace HB := xH HB hb; (try clear hb); (try clear hb2); (try clear hk); (try clear hi); have hcz10_0 := bc BK680 0; have hcz10_1 := bc BK680 1; have hcz10_2 := bc BK680 2; have hfz10_0 := bf BK680 0; have hfz10_1 := bf BK680 1; have hfz10_2 := bf BK680 2) | ((with_reducible refine gate_callee (f := 67) rfl ?_); refine gL (some 14) Try.func67 #[.int .i64 a0_0, (.func (.func G1) fi1 ca1), .slice A2 l2.length c2] ?_; (with_reducible refine (impl_polyCode.calls k a0_0 _ a1 _ _ l2 t682 _ ?side1 ?side2 ?side3 A6.out).mono ?_); (case side1 => exact FnB.later (uH HB.out) (show FnB Try.prog w (.func (.func G1) fi1 ca1) a1 from ⟨_, _, _, rfl, hen1, HF1.out⟩)); (case side2 => exact uC ((Kd.C_below HR2.out HB.out))); (case side3 => exact HC2.out); rintro e w11 ⟨rfl, hb⟩; refine ⟨_, rfl, ?_⟩; replace BK680 := xB BK680 hb; replace HB := xH HB hb; (try clear hb); (try clear hb2); (try clear hk); (try clear hi)))
  go_ret
  exact ⟨by first | rfl | (simp [errW_none, errW_some] <;> rfl) | (simp [*, errW_none, errW_some] <;> rfl), uH HB.out⟩
 ·replace c5 := Bool.eq_false_iff.mpr c5
  subst c5
  have H1 : (some 1) = some r := by rw [if_neg (show ¬ (false = true) by decide)] at H; exact H
  clear H
  have H := H1
  clear H1
  obtain rfl := Option.some.inj H
  go_enter Try.func59, Try.ntmps59
  go_wp2_with (first | ((with_reducible refine gate_dst (N := 3) rfl ?_); refine bx 3 #[.int .i64 a0_0, .slice A0_1 l0_1.length c0_1, .slice A0_2 l0_2.length c0_2] 51 ?_; intro gb680 hg w12 hbox hb; have BK680 := zA (hbox); have GW680 := gq HB hg; have GE680 := gq HB hg; replace HB := xH HB hb; have := geI GE680; clear hb hbox hg; have hcz13_0 := bc BK680 0; have hcz13_1 := bc BK680 1; have hcz13_2 := bc BK680 2; have hfz13_0 := bf BK680 0; have hfz13_1 := bf BK680 1; have hfz13_2 := bf BK680 2) | ((with_reducible refine gate_callee (f := 55) rfl ?_); refine gL (some 8) Try.func55 #[.agg #[.int .i64 a0_0, .slice A0_1 l0_1.length c0_1, .slice A0_2 l0_2.length c0_2]] ?_; (with_reducible refine (impl_IsRule.calls k a0_0 _ _ l0_1 _ _ l0_2 false _ ?side1 ?side2 ?side3 ?side4 A4.out).mono ?_); (case side1 => exact uC ((Kd.C_below HR0_1.out HB.out))); (case side2 => exact HC0_1.out); (case side3 => exact uC ((Kd.C_below HR0_2.out HB.out))); (case side4 => exact HC0_2.out); rintro e w14 ⟨rfl, hb⟩; refine ⟨_, rfl, ?_⟩; replace BK680 := xB BK680 hb; replace HB := xH HB hb; (try clear hb); (try clear hb2); (try clear hk); (try clear hi)))
  go_ret
  exact ⟨by first | rfl | (simp [errW_none, errW_some] <;> rfl) | (simp [*, errW_none, errW_some] <;> rfl), uH HB.out⟩
/-! ### impl_MoveRule: function 33 -/
def impl_MoveRule.l0 : Nat → List (Int × Int) → List Int → Int → Int → Int → List Int → List Int → Int → Int → Option (Int × List Int × List Int × Int)
 | 0, _, _, _, _, _, _, _, _, _ => none
 | k + 1, x9, x21, x22, x23, x368000, x368001, x368002, x369000, x370000 => if x23 < x22 then (if 0 ≤ x23 then (if x23 < (x21.length : Int) then ((impl_Rule_field.f x368000 x368001 x368002).bind fun t377 => ((impl_field_mod.f t377 (wrap64 ((wrap64 (x369000 * (rd x21 x23))) + x370000))).bind fun t378 => (if x23 < (x368002.length : Int) then ((mput x9 t378 (rd x368002 x23)).bind fun t380 => (impl_MoveRule.l0 k t380 x21 x22 (wrap64 (x23 + 1)) x368000 x368001 x368002 x369000 x370000)) else (none)))) else (none)) else (none)) else ((mrule x368000 x9).bind fun bt381 => (some (bt381.1, bt381.2.1, bt381.2.2, 0)))
def impl_MoveRule.f (k : Nat) (a0_0 : Int) (l0_1 : List Int) (l0_2 : List Int) (a1 : Int) (a2 : Int) : Option (Int × List Int × List Int × Int) := (impl_MoveRule_1.f a0_0 l0_1 l0_2 a1 a2).bind fun t371 => ((impl_ruleCode.f k a0_0 l0_1 l0_2 t371 ([] : List (List Int))).bind fun t372 => (if t372 = 0 then (impl_MoveRule.l0 k (([] : List (Int × Int))) l0_1 (l0_1.length : Int) 0 a0_0 l0_1 l0_2 a1 a2) else (some (0, ([] : List Int), ([] : List Int), t372))))
theorem impl_MoveRule.mono_l : ∀ k, (∀ y0 y1 y2 y3 y4 y5 y6 y7 y8, LeO (impl_MoveRule.l0 k y0 y1 y2 y3 y4 y5 y6 y7 y8) (impl_MoveRule.l0 (k + 1) y0 y1 y2 y3 y4 y5 y6 y7 y8))
 | 0 => fun _ _ _ _ _ _ _ _ _ r h => by simp [impl_MoveRule.l0] at h
 | k + 1 => by
  have ih0 := impl_MoveRule.mono_l k
  ·intro y0 y1 y2 y3 y4 y5 y6 y7 y8
   unfold impl_MoveRule.l0
   repeat' first
   | (with_reducible exact ih0 _ _ _ _ _ _ _ _ _)
   | (with_reducible exact impl_ruleCode.mono _ _ _ _ _ _)
   | (with_reducible exact LeO.refl _)
   | (with_reducible exact LeO.none _)
   | (with_reducible refine LeO.ite ?_ ?_)
   | (with_reducible refine LeO.bind ?_ (fun _ => ?_))
   | exact ih0 _ _ _ _ _ _ _ _ _
   | exact impl_ruleCode.mono _ _ _ _ _ _
   | exact LeO.none _
   | refine LeO.ite ?_ ?_
   | refine LeO.bind ?_ (fun _ => ?_)
theorem impl_MoveRule.mono : ∀ a0 a1 a2 a3 a4 k, LeO (impl_MoveRule.f k a0 a1 a2 a3 a4) (impl_MoveRule.f (k + 1) a0 a1 a2 a3 a4) := by
 intro a0 a1 a2 a3 a4 k
 have ih0 := impl_MoveRule.mono_l k
 unfold impl_MoveRule.f
 repeat' first
   | (with_reducible exact ih0 _ _ _ _ _ _ _ _ _)
   | (with_reducible exact impl_ruleCode.mono _ _ _ _ _ _)
   | (with_reducible exact LeO.refl _)
   | (with_reducible exact LeO.none _)
   | (with_reducible refine LeO.ite ?_ ?_)
   | (with_reducible refine LeO.bind ?_ (fun _ => ?_))
   | exact ih0 _ _ _ _ _ _ _ _ _
   | exact impl_ruleCode.mono _ _ _ _ _ _
   | exact LeO.none _
   | refine LeO.ite ?_ ?_
   | refine LeO.bind ?_ (fun _ => ?_)
def impl_MoveRule.T8 : Bool × List (List Nat × List Nat) := (true, [([], []), ([], []), ([1], [1]), ([], []), ([], []), ([3, 4], [3, 4]), ([], []), ([5, 6], [5, 6]), ([2, 7, 2], [2, 7]), ([], []), ([9], [9]), ([], []), ([10, 11], [10, 11]), ([12], [12]), ([0, 8, 13, 8, 0, 1, 2, 3, 4, 5, 6, 7, 8, 9, 10, 11, 12, 13], [0, 8, 13])])
def impl_MoveRule.B8 : List Nat := [0, 0, 2, 0, 0, 24, 0, 120, 254, 0, 512, 0, 3584, 7680, 16383]
theorem impl_MoveRule.tab8 : rtab .any (opsOf Try.f33 8) = impl_MoveRule.T8 := by kernel_rfl
theorem impl_MoveRule.bits8 : waitsOk impl_MoveRule.T8.2 impl_MoveRule.B8 = true := by kernel_rfl
set_option maxHeartbeats 8000000 in
set_option maxRecDepth 100000 in
theorem impl_MoveRule.calls (k : Nat) (a0_0 : Int) (A0_1 : Option Addr) (c0_1 : Nat) (l0_1 : List Int) (A0_2 : Option Addr) (c0_2 : Nat) (l0_2 : List Int) (a1 : Int) (a2 : Int) (r1 : Int) (r2 : List Int) (r3 : List Int) (r4 : Int) (w : World) (hr0_1 : Kd.C (Kd.int .i64) w A0_1 l0_1.length l0_1) (hc0_1 : l0_1.length ≤ c0_1) (hr0_2 : Kd.C (Kd.int .i64) w A0_2 l0_2.length l0_2) (hc0_2 : l0_2.length ≤ c0_2) (h : impl_MoveRule.f k a0_0 l0_1 l0_2 a1 a2 = some (r1, r2, r3, r4)) :
  Calls Try.prog 33 #[.agg #[.int .i64 a0_0, .slice A0_1 l0_1.length c0_1, .slice A0_2 l0_2.length c0_2], .int .i64 a1, .int .i64 a2] w fun e w' => ∃ v1_ v2_ : Value, e = .returned (.tuple #[.agg #[.int .i64 r1, v1_, v2_], .int .i64 r4]) ∧ Kd.R (Kd.int .i64) 2 w' w.heap.size (fun k_ => some k_ ≠ (v2_ : Value).ownBlock) v1_ r2 ∧ Kd.R (Kd.int .i64) 2 w' w.heap.size (fun k_ => some k_ ≠ (v1_ : Value).ownBlock) v2_ r3 ∧ Below w.heap.size w w' := by
 have hu51 := Try.underlying51
 have hmf : ∀ (fn_ : Fn) (first_ cap_ : Array Value) (w_ : World), (Instr.makeFunc fn_ first_ cap_).run Try.prog w_ = .ok (.func fn_ first_ cap_) w_ := fun _ _ _ _ => rfl
 have HR0_1 := zA hr0_1
 have HC0_1 := zA hc0_1
 clear hr0_1 hc0_1
 have HR0_2 := zA hr0_2
 have HC0_2 := zA hc0_2
 clear hr0_2 hc0_2
 have HB := zA (Below.refl w.heap.size w)
 have H : ((impl_MoveRule_1.f a0_0 l0_1 l0_2 a1 a2).bind fun t371 => ((impl_ruleCode.f k a0_0 l0_1 l0_2 t371 ([] : List (List Int))).bind fun t372 => (if t372 = 0 then (impl_MoveRule.l0 k (([] : List (Int × Int))) l0_1 (l0_1.length : Int) 0 a0_0 l0_1 l0_2 a1 a2) else (some (0, ([] : List Int), ([] : List Int), t372))))) = some (r1, r2, r3, r4) := h
 clear h
 replace H := Option.bind_eq_some_iff.mp H
 obtain ⟨t371, A40, H⟩ := H
 replace H : ((impl_ruleCode.f k a0_0 l0_1 l0_2 t371 ([] : List (List Int))).bind fun t372 => (if t372 = 0 then (impl_MoveRule.l0 k (([] : List (Int × Int))) l0_1 (l0_1.length : Int) 0 a0_0 l0_1 l0_2 a1 a2) else (some (0, ([] : List Int), ([] : List Int), t372)))) = some (r1, r2, r3, r4) := H
 have A4 := zA A40
 clear A40
 replace H := Option.bind_eq_some_iff.mp H
 obtain ⟨t372, A50, H⟩ := H
 replace H : (if t372 = 0 then (impl_MoveRule.l0 k (([] : List (Int × Int))) l0_1 (l0_1.length : Int) 0 a0_0 l0_1 l0_2 a1 a2) else (some (0, ([] : List Int), ([] : List Int), t372))) = some (r1, r2, r3, r4) := H
 have A5 := zA A50
 clear A50
 by_cases c6 : t372 = 0
 rotate_left
 ·rw [if_neg c6] at H
  have c6b0 : (t372 == 0) = false := beq_eq_false_iff_ne.mpr c6
  have c6b1 : (t372 != 0) = true := bne_iff_ne.mpr c6
  simp only [Option.some.injEq, Prod.mk.injEq] at H
  obtain ⟨rfl, rfl, rfl, rfl⟩ := H
  go_enter Try.func33, Try.ntmps33
  go_wp2_with (first | ((with_reducible refine gate_dst (N := 3) rfl ?_); refine bx 3 #[.int .i64 a0_0, .slice A0_1 l0_1.length c0_1, .slice A0_2 l0_2.length c0_2] 51 ?_; intro gb367 hg w42 hbox hb; have BK367 := zA (hbox); have GW367 := gq HB hg; have GE367 := gq HB hg; replace HB := xH HB hb; have := geI GE367; clear hb hbox hg) | ((with_reducible refine gate_dst (N := 4) rfl ?_); refine bx 4 #[.int .i64 a1] 2 ?_; intro gb368 hg w43 hbox hb; have BK368 := zA (hbox); have GW368 := gq HB hg; have GE368 := gq HB hg; replace HB := xH HB hb; have NB367_368 := zA ((by rw [hg]; exact neL BK367 : gb367 ≠ gb368)); have NB368_367 := zA ((by rw [hg]; exact neG BK367 : gb368 ≠ gb367)); replace BK367 := xB BK367 hb; have := geI GE368; clear hb hbox hg) | ((with_reducible refine gate_dst (N := 5) rfl ?_); refine bx 5 #[.int .i64 a2] 2 ?_; intro gb369 hg w44 hbox hb; have BK369 := zA (hbox); have GW369 := gq HB hg; have GE369 := gq HB hg; replace HB := xH HB hb; have NB367_369 := zA ((by rw [hg]; exact neL BK367 : gb367 ≠ gb369)); have NB369_367 := zA ((by rw [hg]; exact neG BK367 : gb369 ≠ gb367)); replace BK367 := xB BK367 hb; have NB368_369 := zA ((by rw [hg]; exact neL BK368 : gb368 ≠ gb369)); have NB369_368 := zA ((by rw [hg]; exact neG BK368 : gb369 ≠ gb368)); replace BK368 := xB BK368 hb; have := geI GE369; clear hb hbox hg) | ((with_reducible refine gate_dst (N := 6) rfl ?_); refine bx 6 #[.int .i64 0, .slice none 0 0, .slice none 0 0] 51 ?_; intro gb370 hg w45 hbox hb; have BK370 := zA (hbox); have GW370 := gq HB hg; have GE370 := gq HB hg; replace HB := xH HB hb; have NB367_370 := zA ((by rw [hg]; exact neL BK367 : gb367 ≠ gb370)); have NB370_367 := zA ((by rw [hg]; exact neG BK367 : gb370 ≠ gb367)); replace BK367 := xB BK367 hb; have NB368_370 := zA ((by rw [hg]; exact neL BK368 : gb368 ≠ gb370)); have NB370_368 := zA ((by rw [hg]; exact neG BK368 : gb370 ≠ gb368)); replace BK368 := xB BK368 hb; have NB369_370 := zA ((by rw [hg]; exact neL BK369 : gb369 ≠ gb370)); have NB370_369 := zA ((by rw [hg]; exact neG BK369 : gb370 ≠ gb369)); replace BK369 := xB BK369 hb; have := geI GE370; clear hb hbox hg; have hnb46 := NB367_368.out; have hnc46 := NB368_367.out; have hnb47 := NB367_369.out; have hnc47 := NB369_367.out; have hnb48 := NB367_370.out; have hnc48 := NB370_367.out; have hcz49_0 := bc BK367 0; have hcz49_1 := bc BK367 1; have hcz49_2 := bc BK367 2; have hfz49_0 := bf BK367 0; have hfz49_1 := bf BK367 1; have hfz49_2 := bf BK367 2) | ((with_reducible refine gate_callee (f := 59) rfl ?_); refine gL (some 14) Try.func59 #[.agg #[.int .i64 a0_0, .slice A0_1 l0_1.length c0_1, .slice A0_2 l0_2.length c0_2], (.func (.func 60) #[] #[.pointer (some ⟨gb367, 0, none⟩), .pointer (some ⟨gb368, 0, none⟩), .pointer (some ⟨gb369, 0, none⟩)]), .slice none 0 0] ?_; (refine (impl_ruleCode.calls k a0_0 _ _ l0_1 _ _ l0_2 _ t371 _ _ ([] : List (List Int)) t372 _ ?side1 ?side2 ?side3 ?side4 ?side5 ?side6 ?side7 A5.out).mono ?_); (case side1 => exact uC ((Kd.C_below HR0_1.out HB.out))); (case side2 => exact HC0_1.out); (case side3 => exact uC ((Kd.C_below HR0_2.out HB.out))); (case side4 => exact HC0_2.out); (case side5 => exact FnB.of Try.func60 (by kernel_rfl) rfl (fun W_ hW_ => calls_of_args (args' := #[.pointer (some ⟨gb367, 0, none⟩), .pointer (some ⟨gb368, 0, none⟩), .pointer (some ⟨gb369, 0, none⟩)]) (by simp) ((impl_MoveRule_1.calls _ a0_0 _ _ l0_1 _ _ l0_2 _ a1 _ a2 _ W_ (blk_below (g := gb367) (o := .cells #[.int .i64 a0_0, .slice A0_1 l0_1.length c0_1, .slice A0_2 l0_2.length c0_2] 51 (0, 0)) (uB BK367.out) hW_) (Kd.C_below (by exact uC ((Kd.C_below HR0_1.out HB.out))) hW_) (by exact HC0_1.out) (Kd.C_below (by exact uC ((Kd.C_below HR0_2.out HB.out))) hW_) (by exact HC0_2.out) (blk_below (g := gb368) (o := .cells #[.int .i64 a1] 2 (0, 0)) (uB BK368.out) hW_) (blk_below (g := gb369) (o := .cells #[.int .i64 a2] 2 (0, 0)) (uB BK369.out) hW_) A4.out).mono fun e_ W2_ h_ => ⟨h_.1, h_.2⟩))); (case side6 => exact Kd.C_nil _ _); (case side7 => exact Nat.le_refl _); rintro e w50 ⟨rfl, hb⟩; refine ⟨_, rfl, ?_⟩; replace BK367 := xB BK367 hb; replace BK368 := xB BK368 hb; replace BK369 := xB BK369 hb; replace BK370 := xB BK370 hb; replace HB := xH HB hb; (try clear hb); (try clear hb2); (try clear hk); (try clear hi); have hnb51 := NB370_368.out; have hnc51 := NB368_370.out; have hnb52 := NB370_369.out; have hnc52 := NB369_370.out; have hcz53_0 := bc BK370 0; have hcz53_1 := bc BK370 1; have hcz53_2 := bc BK370 2; have hfz53_0 := bf BK370 0; have hfz53_1 := bf BK370 1; have hfz53_2 := bf BK370 2))
  refine bodyPost_ret (results_ct rfl _ _ gb370 51 #[.int .i64 0, .slice none 0 0, .slice none 0 0] (0, 0) _ rfl (by (repeat refine up1 ?_); refine blk_put (cs := #[.int .i64 0, .slice none 0 0, .slice none 0 0]) ?_ 2 _ rfl; (repeat refine up1 ?_); refine blk_put (cs := #[.int .i64 0, .slice none 0 0, .slice none 0 0]) ?_ 1 _ rfl; (repeat refine up1 ?_); refine blk_put (cs := #[.int .i64 0, .slice none 0 0, .slice none 0 0]) ?_ 0 _ rfl; (repeat refine up1 ?_); exact BK370.out) Try.underlying51 rfl (by kernel_rfl)) rfl ?_
  exact ⟨_, _, by first | rfl | (simp [errW_none, errW_some] <;> rfl) | (simp [*, errW_none, errW_some] <;> rfl), by first | exact Kd.R_nil _ _ _ _ _ | exact Kd.N_nil _ _ _ _ _ | exact Kd.V_nil _ _ _ _ _ | exact Kd.Q_nil _ _ _ _ _ | exact Kd.S_nil _ _ _ _ _, by first | exact Kd.R_nil _ _ _ _ _ | exact Kd.N_nil _ _ _ _ _ | exact Kd.V_nil _ _ _ _ _ | exact Kd.Q_nil _ _ _ _ _ | exact Kd.S_nil _ _ _ _ _, uH HB.out⟩

 rw [if_pos c6] at H
 have c6b0 : (t372 == 0) = true := beq_iff_eq.mpr c6
 have c6b1 : (t372 != 0) = false := bne_eq_false_iff_eq.mpr c6
 clear c6
 obtain ⟨y373, hy373⟩ : ∃ y_ : List (Int × Int), y_ = (([] : List (Int × Int))) := ⟨_, rfl⟩
 replace H : (impl_MoveRule.l0 k y373 l0_1 (l0_1.length : Int) 0 a0_0 l0_1 l0_2 a1 a2) = some (r1, r2, r3, r4) := by first | (rw [hy373]; exact H) | exact H
 have Ny373 := zA hy373
 clear hy373
 have H' := zA H
 clear H
 go_enter Try.func33, Try.ntmps33
 go_wp2_with (first | ((with_reducible refine gate_dst (N := 3) rfl ?_); refine bx 3 #[.int .i64 a0_0, .slice A0_1 l0_1.length c0_1, .slice A0_2 l0_2.length c0_2] 51 ?_; intro gb367 hg w7 hbox hb; have BK367 := zA (hbox); have GW367 := gq HB hg; have GE367 := gq HB hg; replace HB := xH HB hb; have := geI GE367; clear hb hbox hg) | ((with_reducible refine gate_dst (N := 4) rfl ?_); refine bx 4 #[.int .i64 a1] 2 ?_; intro gb368 hg w8 hbox hb; have BK368 := zA (hbox); have GW368 := gq HB hg; have GE368 := gq HB hg; replace HB := xH HB hb; have NB367_368 := zA ((by rw [hg]; exact neL BK367 : gb367 ≠ gb368)); have NB368_367 := zA ((by rw [hg]; exact neG BK367 : gb368 ≠ gb367)); replace BK367 := xB BK367 hb; have := geI GE368; clear hb hbox hg) | ((with_reducible refine gate_dst (N := 5) rfl ?_); refine bx 5 #[.int .i64 a2] 2 ?_; intro gb369 hg w9 hbox hb; have BK369 := zA (hbox); have GW369 := gq HB hg; have GE369 := gq HB hg; replace HB := xH HB hb; have NB367_369 := zA ((by rw [hg]; exact neL BK367 : gb367 ≠ gb369)); have NB369_367 := zA ((by rw [hg]; exact neG BK367 : gb369 ≠ gb367)); replace BK367 := xB BK367 hb; have NB368_369 := zA ((by rw [hg]; exact neL BK368 : gb368 ≠ gb369)); have NB369_368 := zA ((by rw [hg]; exact neG BK368 : gb369 ≠ gb368)); replace BK368 := xB BK368 hb; have := geI GE369; clear hb hbox hg) | ((with_reducible refine gate_dst (N := 6) rfl ?_); refine bx 6 #[.int .i64 0, .slice none 0 0, .slice none 0 0] 51 ?_; intro gb370 hg w10 hbox hb; have BK370 := zA (hbox); have GW370 := gq HB hg; have GE370 := gq HB hg; replace HB := xH HB hb; have NB367_370 := zA ((by rw [hg]; exact neL BK367 : gb367 ≠ gb370)); have NB370_367 := zA ((by rw [hg]; exact neG BK367 : gb370 ≠ gb367)); replace BK367 := xB BK367 hb; have NB368_370 := zA ((by rw [hg]; exact neL BK368 : gb368 ≠ gb370)); have NB370_368 := zA ((by rw [hg]; exact neG BK368 : gb370 ≠ gb368)); replace BK368 := xB BK368 hb; have NB369_370 := zA ((by rw [hg]; exact neL BK369 : gb369 ≠ gb370)); have NB370_369 := zA ((by rw [hg]; exact neG BK369 : gb370 ≠ gb369)); replace BK369 := xB BK369 hb; have := geI GE370; clear hb hbox hg; have hnb11 := NB367_368.out; have hnc11 := NB368_367.out; have hnb12 := NB367_369.out; have hnc12 := NB369_367.out; have hnb13 := NB367_370.out; have hnc13 := NB370_367.out; have hcz14_0 := bc BK367 0; have hcz14_1 := bc BK367 1; have hcz14_2 := bc BK367 2; have hfz14_0 := bf BK367 0; have hfz14_1 := bf BK367 1; have hfz14_2 := bf BK367 2) | ((with_reducible refine gate_callee (f := 59) rfl ?_); refine gL (some 14) Try.func59 #[.agg #[.int .i64 a0_0, .slice A0_1 l0_1.length c0_1, .slice A0_2 l0_2.length c0_2], (.func (.func 60) #[] #[.pointer (some ⟨gb367, 0, none⟩), .pointer (some ⟨gb368, 0, none⟩), .pointer (some ⟨gb369, 0, none⟩)]), .slice none 0 0] ?_; (refine (impl_ruleCode.calls k a0_0 _ _ l0_1 _ _ l0_2 _ t371 _ _ ([] : List (List Int)) t372 _ ?side1 ?side2 ?side3 ?side4 ?side5 ?side6 ?side7 A5.out).mono ?_); (case side1 => exact uC ((Kd.C_below HR0_1.out HB.out))); (case side2 => exact HC0_1.out); (case side3 => exact uC ((Kd.C_below HR0_2.out HB.out))); (case side4 => exact HC0_2.out); (case side5 => exact FnB.of Try.func60 (by kernel_rfl) rfl (fun W_ hW_ => calls_of_args (args' := #[.pointer (some ⟨gb367, 0, none⟩), .pointer (some ⟨gb368, 0, none⟩), .pointer (some ⟨gb369, 0, none⟩)]) (by simp) ((impl_MoveRule_1.calls _ a0_0 _ _ l0_1 _ _ l0_2 _ a1 _ a2 _ W_ (blk_below (g := gb367) (o := .cells #[.int .i64 a0_0, .slice A0_1 l0_1.length c0_1, .slice A0_2 l0_2.length c0_2] 51 (0, 0)) (uB BK367.out) hW_) (Kd.C_below (by exact uC ((Kd.C_below HR0_1.out HB.out))) hW_) (by exact HC0_1.out) (Kd.C_below (by exact uC ((Kd.C_below HR0_2.out HB.out))) hW_) (by exact HC0_2.out) (blk_below (g := gb368) (o := .cells #[.int .i64 a1] 2 (0, 0)) (uB BK368.out) hW_) (blk_below (g := gb369) (o := .cells #[.int .i64 a2] 2 (0, 0)) (uB BK369.out) hW_) A4.out).mono fun e_ W2_ h_ => ⟨h_.1, h_.2⟩))); (case side6 => exact Kd.C_nil _ _); (case side7 => exact Nat.le_refl _); rintro e w15 ⟨rfl, hb⟩; refine ⟨_, rfl, ?_⟩; replace BK367 := xB BK367 hb; replace BK368 := xB BK368 hb; replace BK369 := xB BK369 hb; replace BK370 := xB BK370 hb; replace HB := xH HB hb; (try clear hb); (try clear hb2); (try clear hk); (try clear hi)) | ((with_reducible refine gate_dst (N := 19) rfl ?_); refine made_event (base := w.heap.size) ?hg (N := 19) ?hd (t := 80) ?hr ?hbase ?_; (case hd => rfl); (case hg => rfl); (case hr => rfl); (case hbase => exact below_size (uH HB.out)); intro v374 w16 ho17 hb; rw [← Ny373.out] at ho17; have HO375 := zA (ho17); replace BK367 := xB BK367 hb; replace BK368 := xB BK368 hb; replace BK369 := xB BK369 hb; replace BK370 := xB BK370 hb; replace HB := xH HB hb; clear hb ho17; have hcz18_0 := bc BK367 0; have hcz18_1 := bc BK367 1; have hcz18_2 := bc BK367 2; have hfz18_0 := bf BK367 0; have hfz18_1 := bf BK367 1; have hfz18_2 := bf BK367 2))
 go_loopg [23] k (fun kq v23 w' => ∃ (x9_1 : List (Int × Int)) (x23_1 : Int), v23 = .int .i64 x23_1 ∧ Aside0 (impl_MoveRule.l0 kq x9_1 l0_1 (l0_1.length : Int) x23_1 a0_0 l0_1 l0_2 a1 a2 = some (r1, r2, r3, r4)) ∧ Aside0 (kq ≤ k) ∧ Aside0 (MapOK w' w.heap.size v374 x9_1) ∧ Aside0 (w'.heap[gb367]? = some (.cells #[.int .i64 a0_0, (.slice A0_1 l0_1.length c0_1), (.slice A0_2 l0_2.length c0_2)] 51 (0, 0))) ∧ Aside0 (w'.heap[gb368]? = some (.cells #[.int .i64 a1] 2 (0, 0))) ∧ Aside0 (w'.heap[gb369]? = some (.cells #[.int .i64 a2] 2 (0, 0))) ∧ Aside0 (w'.heap[gb370]? = some (.cells #[.int .i64 0, (.slice none 0 0), (.slice none 0 0)] 51 (0, 0))) ∧ Aside0 (Below w.heap.size w w'))
 case atStart => exact ⟨(y373), (0), (by first | rfl | (simp; done) | (simp [*]; done)), H', ⟨Nat.le_refl _⟩, ⟨HO375.out⟩, ⟨uB BK367.out⟩, ⟨uB BK368.out⟩, ⟨uB BK369.out⟩, ⟨uB BK370.out⟩, ⟨uH HB.out⟩⟩
 case round =>
  clear H'
  (try clear c1);(try clear p2);(try clear c3);(try clear c5);(try clear c6);(try clear c6b0);(try clear c6b1);(try clear c11);(try clear c12);(try clear c13);(try clear hcz14_0);(try clear hcz14_1);(try clear hcz14_2);(try clear hcz18_0);(try clear hcz18_1);(try clear hcz18_2);(try clear hfz14_0);(try clear hfz14_1);(try clear hfz14_2);(try clear hfz18_0);(try clear hfz18_1);(try clear hfz18_2)
  obtain ⟨x9_1, x23_1, rfl, HA, HK1, HO_9, BK367, BK368, BK369, BK370, HB⟩ := hrel
  cases gk with
  | zero => exact absurd HA.out (by simp [impl_MoveRule.l0])
  | succ k1 =>
   have H := HA.out
   clear HA
   simp only [impl_MoveRule.l0] at H
   by_cases c19 : x23_1 < (l0_1.length : Int)
   rotate_left
   ·rw [if_neg c19] at H
    have c19b0 : decide (x23_1 < (l0_1.length : Int)) = false := decide_eq_false c19
    clear c19
    replace H := Option.bind_eq_some_iff.mp H
    obtain ⟨⟨t381, t382, t385⟩, A300, H⟩ := H
    replace H : (some (t381, t382, t385, 0)) = some (r1, r2, r3, r4) := H
    have A30 := zA A300
    clear A300
    simp only [Option.some.injEq, Prod.mk.injEq] at H
    obtain ⟨rfl, rfl, rfl, rfl⟩ := H
    have hnb31 := NB367_368.out; have hnc31 := NB368_367.out; have hnb32 := NB367_369.out; have hnc32 := NB369_367.out; have hnb33 := NB367_370.out; have hnc33 := NB370_367.out
    have hcz34_0 := bc BK367 0
    have hcz34_1 := bc BK367 1
    have hcz34_2 := bc BK367 2
    have hfz34_0 := bf BK367 0
    have hfz34_1 := bf BK367 1
    have hfz34_2 := bf BK367 2
    obtain ⟨bm35, eo35⟩ := MapOK.form HO_9.out
    subst eo35
    go_wp2_with (first | ((with_reducible refine gate_callee (f := 58) rfl ?_); refine gL (some 46) Try.func58 #[.int .i64 a0_0, .map (some bm35)] ?_; (with_reducible refine (mrule_calls HO_9.out A30.out).mono ?_); rintro e w36 ⟨v383, v386, rfl, ho0, ho1, hb⟩; refine ⟨_, rfl, ?_⟩; replace HO_9 := zA (MapOK.below HO_9.out hb); have HO384 := zA (Kd.R_lower (Kd.R_newB (Kd.R_newB (Kd.R_mono ho0 (fun _ h_ => (⟨h_, trivial⟩ : _ ∧ True))) (g := gb368) (o := .cells #[.int .i64 a1] 2 (0, 0)) (uB BK368.out)) (g := gb369) (o := .cells #[.int .i64 a2] 2 (0, 0)) (uB BK369.out)) (below_size (uH HB.out))); have HO387 := zA (Kd.R_lower (Kd.R_newB (Kd.R_newB (Kd.R_mono ho1 (fun _ h_ => (⟨h_, trivial⟩ : _ ∧ True))) (g := gb368) (o := .cells #[.int .i64 a1] 2 (0, 0)) (uB BK368.out)) (g := gb369) (o := .cells #[.int .i64 a2] 2 (0, 0)) (uB BK369.out)) (below_size (uH HB.out))); replace BK367 := xB BK367 hb; replace BK368 := xB BK368 hb; replace BK369 := xB BK369 hb; replace BK370 := xB BK370 hb; replace HB := xH HB hb; (try clear hb); (try clear hb2); (try clear hk); (try clear hi); (try clear ho0); (try clear ho1); have hnb37 := NB370_368.out; have hnc37 := NB368_370.out; have hnb38 := NB370_369.out; have hnc38 := NB369_370.out; have hcz39_0 := bc BK370 0; have hcz39_1 := bc BK370 1; have hcz39_2 := bc BK370 2; have hfz39_0 := bf BK370 0; have hfz39_1 := bf BK370 1; have hfz39_2 := bf BK370 2; obtain ⟨Ao40, co40, eo40⟩ := Kd.R_slice HO384.out; subst eo40; obtain ⟨Ao41, co41, eo41⟩ := Kd.R_slice HO387.out; subst eo41))
    refine bodyPost_ret (results_ct rfl _ _ gb370 51 #[.int .i64 t381, .slice Ao40 t382.length co40, .slice Ao41 t385.length co41] (0, 0) _ rfl (by (repeat refine up1 ?_); refine blk_put (cs := #[.int .i64 t381, .slice Ao40 t382.length co40, .slice none 0 0]) ?_ 2 _ rfl; (repeat refine up1 ?_); refine blk_put (cs := #[.int .i64 t381, .slice none 0 0, .slice none 0 0]) ?_ 1 _ rfl; (repeat refine up1 ?_); refine blk_put (cs := #[.int .i64 0, .slice none 0 0, .slice none 0 0]) ?_ 0 _ rfl; (repeat refine up1 ?_); exact BK370.out) Try.underlying51 rfl (by kernel_rfl)) rfl ?_
    exact ⟨_, _, by first | rfl | (simp [errW_none, errW_some] <;> rfl) | (simp [*, errW_none, errW_some] <;> rfl), uR (Kd.R_mono (Kd.R_far (p := ⟨gb370, 2, none⟩) (Kd.R_far (p := ⟨gb370, 1, none⟩) (Kd.R_far (p := ⟨gb370, 0, none⟩) (Kd.R_types HO384.out BK370.out (by decide)) (fun _ hk => hk.2) (.int .i64 t381)) (fun _ hk => hk.2) (.slice Ao40 t382.length co40)) (fun _ hk => hk.2) (.slice Ao41 t385.length co41)) (fun _ hk => hk.1.1.1.1)), uR (Kd.R_mono (Kd.R_far (p := ⟨gb370, 2, none⟩) (Kd.R_far (p := ⟨gb370, 1, none⟩) (Kd.R_far (p := ⟨gb370, 0, none⟩) (Kd.R_types HO387.out BK370.out (by decide)) (fun _ hk => hk.2) (.int .i64 t381)) (fun _ hk => hk.2) (.slice Ao40 t382.length co40)) (fun _ hk => hk.2) (.slice Ao41 t385.length co41)) (fun _ hk => hk.1.1.1.1)), uH HB.out⟩
   rw [if_pos c19] at H
   have c19b0 : decide (x23_1 < (l0_1.length : Int)) = true := decide_eq_true c19
   clear c19
   by_cases c20 : 0 ≤ x23_1
   rotate_left
   ·rw [if_neg c20] at H
    exact absurd H (by simp)
   rw [if_pos c20] at H
   have c20b0 : decide (0 ≤ x23_1) = true := decide_eq_true c20
   clear c20
   by_cases c21 : x23_1 < (l0_1.length : Int)
   rotate_left
   ·rw [if_neg c21] at H
    exact absurd H (by simp)
   rw [if_pos c21] at H
   have c21b0 : decide (x23_1 < (l0_1.length : Int)) = true := decide_eq_true c21
   clear c21
   replace H := Option.bind_eq_some_iff.mp H
   obtain ⟨t377, A220, H⟩ := H
   replace H : ((impl_field_mod.f t377 (wrap64 ((wrap64 (a1 * (rd l0_1 x23_1))) + a2))).bind fun t378 => (if x23_1 < (l0_2.length : Int) then ((mput x9_1 t378 (rd l0_2 x23_1)).bind fun t380 => (impl_MoveRule.l0 k1 t380 l0_1 (l0_1.length : Int) (wrap64 (x23_1 + 1)) a0_0 l0_1 l0_2 a1 a2)) else (none))) = some (r1, r2, r3, r4) := H
   have A22 := zA A220
   clear A220
   replace H := Option.bind_eq_some_iff.mp H
   obtain ⟨t378, A230, H⟩ := H
   replace H : (if x23_1 < (l0_2.length : Int) then ((mput x9_1 t378 (rd l0_2 x23_1)).bind fun t380 => (impl_MoveRule.l0 k1 t380 l0_1 (l0_1.length : Int) (wrap64 (x23_1 + 1)) a0_0 l0_1 l0_2 a1 a2)) else (none)) = some (r1, r2, r3, r4) := H
   have A23 := zA A230
   clear A230
   by_cases c24 : x23_1 < (l0_2.length : Int)
   rotate_left
   ·rw [if_neg c24] at H
    exact absurd H (by simp)
   rw [if_pos c24] at H
   have c24b0 : decide (x23_1 < (l0_2.length : Int)) = true := decide_eq_true c24
   clear c24
   replace H := Option.bind_eq_some_iff.mp H
   obtain ⟨t380, A250, H⟩ := H
   replace H : (impl_MoveRule.l0 k1 t380 l0_1 (l0_1.length : Int) (wrap64 (x23_1 + 1)) a0_0 l0_1 l0_2 a1 a2) = some (r1, r2, r3, r4) := H
   have A25 := zA A250
   clear A250
   have H' := zA H
   clear H
   have p376 : 0 ≤ (x23_1 : Int) := of_decide_eq_true (by first | (with_reducible assumption) | assumption)
   have q376 : x23_1 < (l0_1.length : Int) := of_decide_eq_true (by first | (with_reducible assumption) | assumption)
   obtain ⟨ad376, e376, hx376_0⟩ := Kd.at_int HR0_1.out x23_1 p376 q376
   cases e376
   replace hx376_0 := hc HB hx376_0
   replace p376 := eq_true p376
   replace q376 := eq_true q376
   try go_wp2
   replace HO_9 := zA (MapOK.drew HO_9.out)
   replace BK367 := zA (blk_drew BK367.out)
   replace BK368 := zA (blk_drew BK368.out)
   replace BK369 := zA (blk_drew BK369.out)
   replace BK370 := zA (blk_drew BK370.out)
   replace HB := zA (below_drew1 HB.out)
   have p379 : 0 ≤ (x23_1 : Int) := of_decide_eq_true (by first | (with_reducible assumption) | assumption)
   have q379 : x23_1 < (l0_2.length : Int) := of_decide_eq_true (by first | (with_reducible assumption) | assumption)
   obtain ⟨ad379, e379, hx379_0⟩ := Kd.at_int HR0_2.out x23_1 p379 q379
   have hw379_0 := hx379_0
   cases e379
   replace hx379_0 := hc HB hx379_0
   replace p379 := eq_true p379
   replace q379 := eq_true q379
   refine start_ (n := 15) (S := fun w' => w'.cell? ⟨gb367, 0, none⟩ = some (.int .i64 a0_0) ∧ w'.cell? ⟨gb367, 1, none⟩ = some (.slice (some ad376) l0_1.length c0_1) ∧ w'.cell? ⟨gb367, 2, none⟩ = some (.slice (some ad379) l0_2.length c0_2) ∧ w'.cell? ⟨gb368, 0, none⟩ = some (.int .i64 a1) ∧ w'.cell? ⟨gb369, 0, none⟩ = some (.int .i64 a2) ∧ w'.cell? (ad379.add (x23_1).toNat) = some (.int .i64 (rd l0_2 x23_1))) (ds := []) #[false, false, false, false, false, false, false, false, false, false, false, false, false, false, false] (by kernel_rfl) rfl rfl ⟨bcu BK367 0, bcu BK367 1, bcu BK367 2, bcu BK368 0, bcu BK369 0, (hcu HB hw379_0)⟩ (fun hHeld => ?_); refine with_tabW impl_MoveRule.tab8 impl_MoveRule.bits8 (fun HT_ HW_ => ?_)
   generalize wr.drew = w26 at HO_9 BK367 BK368 BK369 BK370 HB hx379_0 hHeld ⊢
   refine pu_ 0 28 (bl 15 1) HT_ ?_
   refine pu_ 4 32 (bl 15 17) HT_ ?_
   refine pu_ 9 37 (bl 15 529) HT_ ?_
   refine pu_ 11 39 (bl 15 2577) HT_ ?_
   refine ta_ 1 29 (bl 15 2579) HT_ HW_ hHeld ?_
   refine ta_ 3 31 (bl 15 2587) HT_ HW_ hHeld ?_
   refine pu_ 5 33 (bl 15 2619) HT_ ?_
   refine ta_ 6 34 (bl 15 2683) HT_ HW_ hHeld ?_
   refine pu_ 7 35 (bl 15 2811) HT_ ?_
   refine ta_ 10 38 (bl 15 3835) HT_ HW_ hHeld ?_
   refine pu_ 12 40 (bl 15 7931) HT_ ?_
   refine ta_ 13 41 (bl 15 16123) HT_ HW_ hHeld ?_
   refine on_ 2 (some 30) (bl 15 16127) HT_ (fun K hK => ?_)
   refine gS Try.func56 #[.agg #[.int .i64 a0_0, .slice (some ad376) l0_1.length c0_1, .slice (some ad379) l0_2.length c0_2]] ?_
   with_reducible refine (impl_Rule_field.calls a0_0 _ _ l0_1 _ _ l0_2 t377 _ ?side1 ?side2 ?side3 ?side4 A22.out).mono ?_
   (case side1 => exact uC ((Kd.C_below HR0_1.out HB.out)))
   (case side2 => exact HC0_1.out)
   (case side3 => exact uC ((Kd.C_below HR0_2.out HB.out)))
   (case side4 => exact HC0_2.out)
   rintro e w27 ⟨rfl, hb⟩
   refine ⟨_, rfl, ?_⟩
   replace HO_9 := zA (MapOK.below HO_9.out hb)
   replace BK367 := xB BK367 hb
   replace BK368 := xB BK368 hb
   replace BK369 := xB BK369 hb
   replace BK370 := xB BK370 hb
   replace HB := xH HB hb
   (try clear hb); (try clear hb2); (try clear hk); (try clear hi)
   refine hK.out _ _ ⟨bcu BK367 0, bcu BK367 1, bcu BK367 2, bcu BK368 0, bcu BK369 0, (hcu HB hw379_0)⟩ (fun hHeld => ?_)
   clear hK K
   refine no_ 30 ?_
   refine on_ 8 (some 36) (bl 15 16383) HT_ (fun K hK => ?_)
   refine gS Try.func51 #[.int .i64 t377, .int .i64 (wrap64 ((wrap64 (a1 * (rd l0_1 x23_1))) + a2))] ?_
   with_reducible refine (impl_field_mod.calls t377 (wrap64 ((wrap64 (a1 * (rd l0_1 x23_1))) + a2)) t378 _ A23.out).mono ?_
   rintro e w' ⟨rfl, ⟨nd, rfl⟩⟩
   refine ⟨_, rfl, ?_⟩
   obtain ⟨bm28, eo28⟩ := MapOK.form HO_9.out
   subst eo28
   refine hK.out _ _ ⟨bcu BK367 0, bcu BK367 1, bcu BK367 2, bcu BK368 0, bcu BK369 0, (hcu HB hw379_0)⟩ (fun hHeld => ?_)
   clear hK K
   refine no_ 36 ?_
   refine on_ 14 (none) (bl 15 32767) HT_ (fun K hK => ?_)
   refine put_step (by rfl) _ _ _ rfl rfl rfl rfl rfl (w0 := w) (MapOK.drewN HO_9.out _) A25.out (uH HB.out) ?_
   intro w29 hy0 hg hb
   replace BK367 := zA (blk_grown (uB BK367.out) hg (MapOK.neB HO_9.out BK367.out))
   replace BK368 := zA (blk_grown (uB BK368.out) hg (MapOK.neB HO_9.out BK368.out))
   replace BK369 := zA (blk_grown (uB BK369.out) hg (MapOK.neB HO_9.out BK369.out))
   replace BK370 := zA (blk_grown (uB BK370.out) hg (MapOK.neB HO_9.out BK370.out))
   replace HO_9 := zA (hy0)
   replace HB := zA (hb)
   (try clear hb); (try clear hkp); (try clear hy0)
   refine hK.out _ _ ⟨bcu BK367 0, bcu BK367 1, bcu BK367 2, bcu BK368 0, bcu BK369 0, (hcu HB hw379_0)⟩ (fun hHeld => ?_)
   clear hK K
   refine done_ (done_of HT_.out (by kernel_rfl)) ?_
   try go_wp2
   go_roundg k1
   case measure => have := HK1.out; omega
   case rel => exact ⟨(t380), (wrap64 (x23_1 + 1)), (by first | rfl | (simp; done) | (simp [*]; done)), H', ⟨by have := HK1.out; omega⟩, ⟨HO_9.out⟩, ⟨uB BK367.out⟩, ⟨uB BK368.out⟩, ⟨uB BK369.out⟩, ⟨uB BK370.out⟩, ⟨uH HB.out⟩⟩
/- Plain lemmas: rounds (Ev), wrapped sums, rests modulo p, lists read and written at an index. No program is in sight. -/
section
variable {α β : Type}
theorem Ev.pos {c : Prop} [Decidable c] {X Y : Nat → Option α} {r : α} (h : c) (e : Ev X r) : Ev (fun k => if c then X k else Y k) r := by
  simpa only [if_pos h] using e
theorem Ev.neg {c : Prop} [Decidable c] {X Y : Nat → Option α} {r : α} (h : ¬ c) (e : Ev Y r) : Ev (fun k => if c then X k else Y k) r := by
  simpa only [if_neg h] using e
theorem Ev.eq {x : Option α} {r : α} (h : x = some r) : Ev (fun _ => x) r := ⟨0, fun _ _ => h⟩
theorem Ev.some' {r s : α} (h : r = s) : Ev (fun _ => some r) s := ⟨0, fun _ _ => by rw [h]⟩
theorem Ev.bindE {x : Option α} {f : Nat → α → Option β} {a : α} {r : β} (h : x = some a) (e : Ev (fun n => f n a) r) : Ev (fun n => x.bind (f n)) r := by
  subst h; simpa using e
theorem Ev.cast {g : Nat → Option α} {r s : α} (h : Ev g r) (e : r = s) : Ev g s := e ▸ h
theorem Ev.fn {g : Nat → Option α} {r s : α} (h : Ev g r) (h' : Ev g s) : r = s := by
  obtain ⟨K, h⟩ := h
  obtain ⟨K', h'⟩ := h'
  have a := h (max K K') (by omega)
  have b := h' (max K K') (by omega)
  rw [a] at b
  exact Option.some.inj b
end

theorem ne_self {α : Type} [BEq α] [LawfulBEq α] (a : α) : ¬ ((a != a) = true) := by simp

theorem wrap_id {x : Int} (h0 : -9223372036854775808 ≤ x) (h1 : x < 9223372036854775808) : wrap64 x = x := by unfold wrap64; omega
theorem wsucc {i n : Nat} (h : i < n) (hn : n < 4611686018427387904) : wrap64 ((i : Int) + 1) = ((i + 1 : Nat) : Int) := by unfold wrap64; omega
theorem wadd {i j n : Nat} (h : i + j < n) (hn : n < 4611686018427387904) : wrap64 ((i : Int) + (j : Int)) = ((i + j : Nat) : Int) := by unfold wrap64; omega
theorem wpred {i : Nat} (h : 0 < i) (hn : i < 4611686018427387904) : wrap64 ((i : Int) - 1) = ((i - 1 : Nat) : Int) := by unfold wrap64; omega

theorem rd_nat (l : List Int) (i : Nat) : rd l (i : Int) = l.getD i 0 := by simp [rd]
theorem rdL_nat (l : List (List Int)) (i : Nat) : rd_L1 l (i : Int) = l.getD i [] := by simp [rd_L1]
theorem getD_mem {α : Type} {l : List α} {i : Nat} {d : α} (h : i < l.length) : l.getD i d ∈ l := by
  simp only [List.getD_eq_getElem?_getD, List.getElem?_eq_getElem h, Option.getD_some]; exact List.getElem_mem h
theorem toNat_nat (i : Nat) : ((i : Int)).toNat = i := rfl

/-- A length that is small. -/
abbrev Sm (n : Nat) : Prop := n ≤ 1048576

/-- Numbers modulo p. -/
def Nm (p : Int) (l : List Int) : Prop := ∀ x ∈ l, 0 ≤ x ∧ x < p
theorem Nm.nil (p : Int) : Nm p [] := fun x h => by cases h
theorem Nm.cons {p x : Int} {l : List Int} (h0 : 0 ≤ x) (h1 : x < p) (h : Nm p l) : Nm p (x :: l) := fun y hy => by
  rcases List.mem_cons.1 hy with rfl | hy
  · exact ⟨h0, h1⟩
  · exact h y hy
theorem Nm.append {p : Int} {l m : List Int} (h : Nm p l) (h' : Nm p m) : Nm p (l ++ m) := fun y hy => by
  rcases List.mem_append.1 hy with hy | hy
  · exact h y hy
  · exact h' y hy
theorem Nm.get {p : Int} {l : List Int} (h : Nm p l) {i : Nat} (hi : i < l.length) : 0 ≤ l.getD i 0 ∧ l.getD i 0 < p := h _ (getD_mem hi)
theorem Nm.getp {p : Int} {l : List Int} (h : Nm p l) (hp : 0 < p) (i : Nat) : 0 ≤ l.getD i 0 ∧ l.getD i 0 < p := by
  by_cases hi : i < l.length
  · exact h.get hi
  · rw [List.getD_eq_getElem?_getD, List.getElem?_eq_none (by omega)]; exact ⟨Int.le_refl _, hp⟩
theorem Nm.take {p : Int} {l : List Int} (h : Nm p l) (n : Nat) : Nm p (l.take n) := fun x hx => h x (List.mem_of_mem_take hx)
theorem Nm.drop {p : Int} {l : List Int} (h : Nm p l) (n : Nat) : Nm p (l.drop n) := fun x hx => h x (List.mem_of_mem_drop hx)
theorem Nm.set {p x : Int} {l : List Int} (h : Nm p l) (h0 : 0 ≤ x) (h1 : x < p) (i : Nat) : Nm p (l.set i x) := fun y hy => by
  rcases List.mem_or_eq_of_mem_set hy with hy | rfl
  · exact h y hy
  · exact ⟨h0, h1⟩
theorem Nm.zeros {p : Int} (hp : 0 < p) (n : Nat) : Nm p (List.replicate n 0) := fun x hx => by
  rw [(List.mem_replicate.1 hx).2]; exact ⟨Int.le_refl _, hp⟩
instance (p : Int) (l : List Int) : Decidable (Nm p l) := by unfold Nm; infer_instance

theorem wf64 {x : Int} (h : (Lit.int .i64 x).wf = true) : -9223372036854775808 ≤ x ∧ x ≤ 9223372036854775807 := by
  have h2 : IntKind.i64.min ≤ x ∧ x ≤ 9223372036854775807 := by simpa [Lit.wf] using h
  exact h2
/-- A modulus that the program may have (in its range; a prime or not). -/
structure Pm (p : Int) : Prop where
  two : 2 ≤ p
  top : p ≤ 10007
theorem Pm.pos {p : Int} (h : Pm p) : 0 < p := by have := h.two; omega
theorem Pm.ne {p : Int} (h : Pm p) : p ≠ 0 := by have := h.two; omega

theorem mulB {a b m n : Int} (ha : 0 ≤ a) (ha' : a ≤ m) (hb : 0 ≤ b) (hb' : b ≤ n) : 0 ≤ a * b ∧ a * b ≤ m * n :=
  ⟨Int.mul_nonneg ha hb, Int.mul_le_mul ha' hb' hb (by omega)⟩
/-- A product of two numbers modulo p. -/
theorem mulP {p a b : Int} (hp : Pm p) (ha : 0 ≤ a) (ha' : a < p) (hb : 0 ≤ b) (hb' : b < p) : 0 ≤ a * b ∧ a * b ≤ 100140049 := by
  have h1 := hp.top
  have h := mulB (m := 10007) (n := 10007) ha (by omega) hb (by omega)
  exact ⟨h.1, by omega⟩
theorem tmod_pos {a b : Int} (h : 0 ≤ a) : Int.tmod a b = a % b := Int.tmod_eq_emod_of_nonneg h
theorem emodB {p : Int} (hp : 0 < p) (x : Int) : 0 ≤ x % p ∧ x % p < p := ⟨Int.emod_nonneg _ (by omega), Int.emod_lt_of_pos _ hp⟩
/-- Go's '(x % p + p) % p' is the rest of x. -/
theorem go_mod {p x : Int} (hp : Pm p) : Int.tmod (wrap64 (Int.tmod x p + p)) p = x % p := by
  have h2 := hp.two
  have ht := hp.top
  have h := Int.tmod_eq_emod (a := x) (b := p)
  have hb := emodB hp.pos x
  have hn : ((p.natAbs : Nat) : Int) = p := by omega
  split at h
  · rw [h, Int.natCast_zero, wrap_id (by omega) (by omega), tmod_pos (by omega), show x % p - 0 + p = x % p + p from by omega, Int.add_emod_right, Int.emod_emod]
  · rw [h, hn, wrap_id (by omega) (by omega), tmod_pos (by omega), show x % p - p + p = x % p from by omega, Int.emod_emod]

/-- A list without noughts at its end. -/
def trim (l : List Int) : List Int := (l.reverse.dropWhile (· == 0)).reverse
theorem trim_nil : trim [] = [] := rfl
theorem trim_snoc_zero (l : List Int) : trim (l ++ [0]) = trim l := by simp [trim]
theorem trim_snoc (l : List Int) {x : Int} (h : x ≠ 0) : trim (l ++ [x]) = l ++ [x] := by simp [trim, h]
theorem snocInd {α : Type} {P : List α → Prop} (h0 : P []) (h1 : ∀ l x, P l → P (l ++ [x])) (l : List α) : P l := by
  have h : ∀ l : List α, P l.reverse := by
    intro l
    induction l with
    | nil => exact h0
    | cons x l ih => rw [List.reverse_cons]; exact h1 _ _ ih
  simpa using h l.reverse
theorem trim_sub (l : List Int) : ∃ n, l = trim l ++ List.replicate n 0 := by
  induction l using snocInd with
  | h0 => exact ⟨0, rfl⟩
  | h1 l x ih =>
    by_cases h : x = 0
    · subst h
      obtain ⟨n, hn⟩ := ih
      refine ⟨n + 1, ?_⟩
      rw [trim_snoc_zero, List.replicate_succ', ← List.append_assoc, ← hn]
    · exact ⟨0, by rw [trim_snoc l h]; simp⟩
/- Copies of lists; no condition. -/
theorem Sm0 : Sm ([] : List Int).length := by simp [Sm]
theorem Sm.take {l : List Int} (h : Sm l.length) (n : Nat) : Sm (l.take n).length := by unfold Sm at h ⊢; rw [List.length_take]; omega
theorem Sm.drop {l : List Int} (h : Sm l.length) (n : Nat) : Sm (l.drop n).length := by unfold Sm at h ⊢; rw [List.length_drop]; omega
theorem own_eq (l : List Int) (hl : Sm l.length) : spec_l01Own.f l = some l := by
  unfold spec_l01Own.f
  simp only [Option.bind_some, List.length_nil, List.nil_append]
  rw [if_pos (by unfold Sm at hl; omega)]
/- What the laws' own helpers compute: copies, comparisons, marks. -/
theorem set_take_step (l : List Int) (i : Nat) (h : i < l.length) : (l.take i ++ List.replicate (l.length - i) 0).set i (l.getD i 0) = l.take (i + 1) ++ List.replicate (l.length - (i + 1)) 0 := by
  obtain ⟨m, hm⟩ : ∃ m, l.length - i = m + 1 := ⟨l.length - i - 1, by omega⟩
  rw [List.set_append_right (h := by simp; omega)]
  rw [hm, List.replicate_succ]
  have e : i - (l.take i).length = 0 := by simp; omega
  rw [e, List.set_cons_zero, List.take_succ_eq_append_getElem h]
  have e2 : l.length - (i + 1) = m := by omega
  rw [e2, List.append_assoc]
  simp [List.getD, h]

theorem toInt64S_l0 (l : List Int) (hl : Sm l.length) (d : Nat) : ∀ i, i + d = l.length → Ev (fun k => laws_toInt64S.l0 k l (l.take i ++ List.replicate (l.length - i) 0) (i : Int)) l := by
  induction d with
  | zero =>
    intro i hi
    refine Ev.step (fun k => by rw [laws_toInt64S.l0]) ?_
    refine Ev.neg (by omega) (Ev.some' ?_)
    have e : l.length - i = 0 := by omega
    rw [e, List.take_of_length_le (by omega)]; simp
  | succ d ih =>
    intro i hi
    have hlen : (l.take i ++ List.replicate (l.length - i) (0 : Int)).length = l.length := by simp; omega
    refine Ev.step (fun k => by rw [laws_toInt64S.l0]) ?_
    refine Ev.pos (by omega) (Ev.pos (by omega) (Ev.pos (by rw [hlen]; omega) ?_))
    rw [toNat_nat, rd_nat, set_take_step l i (by omega), wsucc (i := i) (n := l.length) (by omega) (by unfold Sm at hl; omega)]
    exact ih (i + 1) (by omega)
theorem toInt64S_ev (l : List Int) (hl : Sm l.length) : Ev (fun k => laws_toInt64S.f k l) l := by
  unfold laws_toInt64S.f
  refine Ev.pos (by omega) (Ev.pos (by unfold Sm at hl; rw [toNat_nat]; omega) ?_)
  have h := toInt64S_l0 l hl l.length 0 (by omega)
  simpa using h

theorem eqInt64S_l0 (l : List Int) (hl : Sm l.length) (d : Nat) : ∀ i, i + d = l.length → Ev (fun k => laws_eqInt64S.l0 k l l (i : Int)) true := by
  induction d with
  | zero =>
    intro i hi
    refine Ev.step (fun k => by rw [laws_eqInt64S.l0]) ?_
    exact Ev.neg (by omega) (Ev.now _)
  | succ d ih =>
    intro i hi
    refine Ev.step (fun k => by rw [laws_eqInt64S.l0]) ?_
    refine Ev.pos (by omega) (Ev.pos (by omega) (Ev.pos (by omega) (Ev.pos rfl ?_)))
    rw [wsucc (i := i) (n := l.length) (by omega) (by unfold Sm at hl; omega)]
    exact ih (i + 1) (by omega)
theorem eqInt64S_ev (l : List Int) (hl : Sm l.length) : Ev (fun k => laws_eqInt64S.f k l l) true := by
  unfold laws_eqInt64S.f
  exact Ev.pos rfl (eqInt64S_l0 l hl l.length 0 (by omega))

/-- The marks m, m + 1, .. -/
def marks (m n : Nat) : List Int := (List.range n).map fun i => ((m + i : Nat) : Int)
theorem marks_length (m n : Nat) : (marks m n).length = n := by simp [marks]
theorem marks_get (m n i : Nat) (h : i < n) : (marks m n).getD i 0 = ((m + i : Nat) : Int) := by
  simp [marks, List.getD, h]

theorem markInt64S_l0 (l : List Int) (m : Nat) (hl : Sm l.length) (hm : m ≤ 4611686018427387904 - 4194304) (d : Nat) : ∀ i, i + d = l.length →
    Ev (fun k => laws_markInt64S.l0 k (marks m i ++ l.drop i) ((m + i : Nat) : Int) (i : Int)) (((m + l.length : Nat) : Int), marks m l.length) := by
  induction d with
  | zero =>
    intro i hi
    have hlen : (marks m i ++ l.drop i).length = l.length := by simp [marks_length]; omega
    refine Ev.step (fun k => by rw [laws_markInt64S.l0]) ?_
    refine Ev.neg (by rw [hlen]; omega) (Ev.some' ?_)
    have e : i = l.length := by omega
    subst e
    simp
  | succ d ih =>
    intro i hi
    have hlen : (marks m i ++ l.drop i).length = l.length := by simp [marks_length]; omega
    refine Ev.step (fun k => by rw [laws_markInt64S.l0]) ?_
    refine Ev.pos (by rw [hlen]; omega) (Ev.pos (by omega) ?_)
    have e : (marks m i ++ l.drop i).set ((i : Int)).toNat ((m + i : Nat) : Int) = marks m (i + 1) ++ l.drop (i + 1) := by
      rw [toNat_nat, List.set_append_right (h := by simp [marks_length])]
      rw [marks_length, Nat.sub_self, List.drop_eq_getElem_cons (by omega), List.set_cons_zero]
      unfold marks
      rw [List.range_succ, List.map_append, List.append_assoc]
      rfl
    rw [e, wsucc (i := i) (n := l.length) (by omega) (by unfold Sm at hl; omega), wsucc (i := m + i) (n := m + i + 1) (by omega) (by unfold Sm at hl; omega)]
    exact ih (i + 1) (by omega)
theorem markInt64S_ev (l : List Int) (m : Nat) (hl : Sm l.length) (hm : m ≤ 4611686018427387904 - 4194304) :
    Ev (fun k => laws_markInt64S.f k l (m : Int)) (((m + l.length : Nat) : Int), marks m l.length) := by
  unfold laws_markInt64S.f
  have h := markInt64S_l0 l m hl hm l.length 0 (by omega)
  simpa [marks] using h

theorem heldInt64S_l0 (n m : Nat) (hl : Sm n) (hm : m ≤ 4611686018427387904 - 4194304) (d : Nat) : ∀ i, i + d = n →
    Ev (fun k => laws_heldInt64S.l0 k (marks m n) ((m + i : Nat) : Int) (i : Int)) ((m + n : Nat) : Int) := by
  induction d with
  | zero =>
    intro i hi
    refine Ev.step (fun k => by rw [laws_heldInt64S.l0]) ?_
    refine Ev.neg (by rw [marks_length]; omega) (Ev.some' ?_)
    have e : i = n := by omega
    rw [e]
  | succ d ih =>
    intro i hi
    refine Ev.step (fun k => by rw [laws_heldInt64S.l0]) ?_
    refine Ev.pos (by rw [marks_length]; omega) (Ev.pos (by omega) (Ev.pos (by rw [rd_nat, marks_get m n i (by omega)]) ?_))
    rw [wsucc (i := i) (n := n) (by omega) (by unfold Sm at hl; omega), wsucc (i := m + i) (n := m + i + 1) (by omega) (by unfold Sm at hl; omega)]
    exact ih (i + 1) (by omega)
theorem heldInt64S_ev (n m : Nat) (hl : Sm n) (hm : m ≤ 4611686018427387904 - 4194304) : Ev (fun k => laws_heldInt64S.f k (marks m n) (m : Int)) ((m + n : Nat) : Int) := by
  unfold laws_heldInt64S.f
  exact heldInt64S_l0 n m hl hm n 0 (by omega)

theorem szInt64S_yes (l : List Int) (a : Nat) (ha : a ≤ 1048576) (h : l.length ≤ a) : laws_szInt64S.f l (a : Int) = some ((a - l.length : Nat) : Int) := by
  unfold laws_szInt64S.f
  rw [wrap_id (by omega) (by omega), if_neg (by omega)]
  congr 1
  omega
theorem szInt64S_no (l : List Int) (a : Nat) (hl : l.length ≤ 9223372036854775807) (ha : a ≤ 1048576) (h : a < l.length) : laws_szInt64S.f l (a : Int) = some (-1) := by
  unfold laws_szInt64S.f
  rw [wrap_id (by omega) (by omega), if_pos (by omega)]
end Go.Proofs.Ytjdannndpfkadaa.Pr
