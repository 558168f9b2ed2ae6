/- Texts of this session in one: what functions of the program compute, and plain facts of it, under the conditions that each theorem names. -/
import Derived.WalkSpells
import Derived.Test.YtcfiegapclbenaaKC01
import Derived.Test.YtcfiegapclbenaaKC02
/- Printed by a program of this session out of the translation: what these functions of the program compute, under the conditions that each theorem names. -/
namespace Go.Proofs.Ytcfiegapclbenaa.Pr
open Go.RowKit Go.Proofs.YtcfiegapclbenaaW.PrintWords Go.Proofs.YtcfiegapclbenaaW.PrintLast Go.Proofs.YtcfiegapclbenaaW.PrintMore
attribute [local go_sem] max2_int min2_int max_two min_two max_three min_three max_four min_four   -- for this text's walks alone
set_option linter.unusedVariables false
set_option linter.unusedSimpArgs false

/-! ### impl_polyCode_1: function 68 -/
def impl_polyCode_1.f (l0 : List Int) (a1_0 : Int) : Option (Bool) := (impl_IsPoly.f a1_0 l0).bind fun t221 => (some t221)
set_option maxHeartbeats 8000000 in
set_option maxRecDepth 100000 in
theorem impl_polyCode_1.calls (A0 : Option Addr) (c0 : Nat) (l0 : List Int) (gc1 : Nat) (a1_0 : Int) (r : Bool) (w : World) (hr0 : Kd.C (Kd.int .i64) w A0 l0.length l0) (hc0 : l0.length ≤ c0) (hb1 : w.heap[gc1]? = some (.cells #[.int .i64 a1_0] 2 (0, 0))) (h : impl_polyCode_1.f l0 a1_0 = some r) :
  Calls Try.prog 68 #[.slice A0 l0.length c0, .pointer (some ⟨gc1, 0, none⟩)] w fun e w' => e = .returned (.bool r) ∧ Below w.heap.size w w' := by
 have HR0 := zA hr0
 have HC0 := zA hc0
 clear hr0 hc0
 have BK1 := zA hb1
 clear hb1
 have HB := zA (Below.refl w.heap.size w)
 have H : ((impl_IsPoly.f a1_0 l0).bind fun t221 => (some t221)) = some r := h
 clear h
 replace H := Option.bind_eq_some_iff.mp H
 obtain ⟨t221, A30, H⟩ := H
 replace H : (some t221) = some r := H
 have A3 := zA A30
 clear A30
 obtain rfl := Option.some.inj H
 have hcz4_0 : w.cell? ⟨gc1, 0, none⟩ = some (.int .i64 a1_0) := (blk_cell BK1.out 0).trans rfl
 have hfz4_0 := blk_frozen BK1.out 0
 go_enter Try.func68, Try.ntmps68
 go_wp2_with (first | ((with_reducible refine gate_callee (f := 69) rfl ?_); refine goesL_ (some 6) rfl rfl Try.func69 (by kernel_rfl) rfl #[.int .i64 a1_0, .slice A0 l0.length c0] rfl (by (try simp only [List.map_toArray, List.map_cons, List.map_nil]); first | done | rfl | (simp only [List.length_drop, List.length_take]; rfl)) ?_; (with_reducible refine (impl_IsPoly.calls a1_0 _ _ l0 t221 _ ?side1 ?side2 A3.out).mono ?_); (case side1 => exact uC HR0.out); (case side2 => exact HC0.out); rintro e w5 ⟨rfl, hb⟩; refine ⟨_, rfl, ?_⟩; have n0_ := xB BK1 hb; have n1_ := xH HB hb; clear BK1 HB; have BK1 := n0_; have HB := n1_; clear n0_ n1_; (try clear hb); (try clear hb2); (try clear hk); (try clear hi)))
 go_ret
 exact ⟨by first | rfl | (simp [errW_none, errW_some] <;> rfl) | (simp [*, errW_none, errW_some] <;> rfl), uH HB.out⟩

end Go.Proofs.Ytcfiegapclbenaa.Pr
/- Printed by a program of this session out of the translation: what these functions of the program compute, under the conditions that each theorem names. -/
namespace Go.Proofs.Ytcfiegapclbenaa.Pr
open Go.RowKit Go.Proofs.YtcfiegapclbenaaW.PrintWords Go.Proofs.YtcfiegapclbenaaW.PrintLast Go.Proofs.YtcfiegapclbenaaW.PrintMore
attribute [local go_sem] max2_int min2_int max_two min_two max_three min_three max_four min_four   -- for this text's walks alone
set_option linter.unusedVariables false
set_option linter.unusedSimpArgs false

/-! ### impl_polyCode: function 62 -/
def impl_polyCode.f (k : Nat) (a0 : Int) (a1 : Bool) (l2 : List (List Int)) : Option (Int) := (impl_areAll_rows.f l2 (fun z_ => impl_polyCode_1.f z_ a0)).bind fun t223 => (if t223 = true then ((impl_IsPrime.f k a0).bind fun t224 => (if t224 = true then (if a1 = true then (some 0) else (some 2)) else (some 2))) else (some 1))
theorem impl_polyCode.mono : ∀ a0 a1 a2 k, LeO (impl_polyCode.f k a0 a1 a2) (impl_polyCode.f (k + 1) a0 a1 a2) := by
 intro a0 a1 a2 k
 unfold impl_polyCode.f
 repeat' first
   | (with_reducible exact impl_IsPrime.mono _ _)
   | (with_reducible exact LeO.refl _)
   | (with_reducible exact LeO.none _)
   | (with_reducible refine LeO.ite ?_ ?_)
   | (with_reducible refine LeO.bind ?_ (fun _ => ?_))
   | exact impl_IsPrime.mono _ _
   | exact LeO.none _
   | refine LeO.ite ?_ ?_
   | refine LeO.bind ?_ (fun _ => ?_)
set_option maxHeartbeats 8000000 in
set_option maxRecDepth 100000 in
theorem impl_polyCode.calls (k : Nat) (a0 : Int) (F1 : Value) (a1 : Bool) (A2 : Option Addr) (c2 : Nat) (l2 : List (List Int)) (r : Int) (w : World) (hF1 : FnB Try.prog w F1 a1) (hr2 : Kd.C (Kd.slice 2 (Kd.int .i64)) w A2 l2.length l2) (hc2 : l2.length ≤ c2) (h : impl_polyCode.f k a0 a1 l2 = some r) :
  Calls Try.prog 62 #[.int .i64 a0, F1, .slice A2 l2.length c2] w fun e w' => e = .returned (.int .i64 r) ∧ Below w.heap.size w w' := by
 have hmf : ∀ (fn_ : Fn) (first_ cap_ : Array Value) (w_ : World), (Instr.makeFunc fn_ first_ cap_).run Try.prog w_ = .ok (.func fn_ first_ cap_) w_ := fun _ _ _ _ => rfl
 obtain ⟨G1, fi1, ca1, rfl, hen1, hF1⟩ := hF1
 have hen1 : ∀ (args_ : Array Value) (w_ : World), (callFunc G1 args_).run Try.prog w_ = .ok (.enter G1 args_) w_ := hen1
 have HF1 := zA hF1
 clear hF1
 have HR2 := zA hr2
 have HC2 := zA hc2
 clear hr2 hc2
 have HB := zA (Below.refl w.heap.size w)
 have H : ((impl_areAll_rows.f l2 (fun z_ => impl_polyCode_1.f z_ a0)).bind fun t223 => (if t223 = true then ((impl_IsPrime.f k a0).bind fun t224 => (if t224 = true then (if a1 = true then (some 0) else (some 2)) else (some 2))) else (some 1))) = some r := h
 clear h
 replace H := Option.bind_eq_some_iff.mp H
 obtain ⟨t223, A40, H⟩ := H
 replace H : (if t223 = true then ((impl_IsPrime.f k a0).bind fun t224 => (if t224 = true then (if a1 = true then (some 0) else (some 2)) else (some 2))) else (some 1)) = some r := H
 have A4 := zA A40
 clear A40
 by_cases c5 : t223 = true
 ·subst c5
  have H1 : ((impl_IsPrime.f k a0).bind fun t224 => (if t224 = true then (if a1 = true then (some 0) else (some 2)) else (some 2))) = some r := by rw [if_pos rfl] at H; exact H
  clear H
  have H := H1
  clear H1
  replace H := Option.bind_eq_some_iff.mp H
  obtain ⟨t224, A60, H⟩ := H
  replace H : (if t224 = true then (if a1 = true then (some 0) else (some 2)) else (some 2)) = some r := H
  have A6 := zA A60
  clear A60
  by_cases c7 : t224 = true
  ·subst c7
   have H1 : (if a1 = true then (some 0) else (some 2)) = some r := by rw [if_pos rfl] at H; exact H
   clear H
   have H := H1
   clear H1
   by_cases c8 : a1 = true
   ·subst c8
    have H1 : (some 0) = some r := by rw [if_pos rfl] at H; exact H
    clear H
    have H := H1
    clear H1
    obtain rfl := Option.some.inj H
    go_enter Try.func62, Try.ntmps62
    go_wp2_with (first | ((with_reducible refine gate_dst (N := 3) rfl ?_); refine box_event ?hg (N := 3) ?hd (cs := #[.int .i64 a0]) (t := 2) ?hr ?_; (case hd => rfl); (case hg => rfl); (case hr => first | (go_simp; done) | (go_simp; rfl)); intro gb222 hg w9 hbox hb; have n0_ := xH HB hb; have n1_ := zA (hbox); have n2_ := zA ((by rw [hg]; exact (below_size (uH HB.out)) : w.heap.size ≤ gb222)); have n3_ := zA ((by rw [hg]; exact (below_size (uH HB.out)) : w.heap.size ≤ gb222)); clear HB; have HB := n0_; have BK222 := n1_; have GW222 := n2_; have GE222 := n3_; have := geI GE222; clear n0_ n1_ n2_ n3_ hb hbox hg) | ((with_reducible refine gate_callee (f := 67) rfl ?_); refine goesL_ (some 10) rfl rfl Try.func67 (by kernel_rfl) rfl #[.slice A2 l2.length c2, (.func (.func 68) #[] #[.pointer (some ⟨gb222, 0, none⟩)])] rfl (by (try simp only [List.map_toArray, List.map_cons, List.map_nil]); first | done | rfl | (simp only [List.length_drop, List.length_take]; rfl)) ?_; (with_reducible refine (impl_areAll_rows.calls _ _ l2 _ (fun z_ => impl_polyCode_1.f z_ a0) true _ ?side1 ?side2 ?side3 A4.out).mono ?_); (case side1 => exact uC ((Kd.C_below HR2.out HB.out))); (case side2 => exact HC2.out); (case side3 => exact FnL.of Try.func68 (by kernel_rfl) rfl (fun z_ r_ A_ c_ hr_ W_ hW_ hC_ hc_ => calls_of_args (args' := #[.slice A_ z_.length c_, .pointer (some ⟨gb222, 0, none⟩)]) (by simp) ((impl_polyCode_1.calls A_ c_ z_ _ a0 r_ W_ hC_ hc_ (blk_below (g := gb222) (o := .cells #[.int .i64 a0] 2 (0, 0)) (uB BK222.out) hW_) hr_).mono fun e_ W2_ h_ => ⟨h_.1, h_.2⟩))); rintro e w10 ⟨rfl, hb⟩; refine ⟨_, rfl, ?_⟩; have n0_ := xB BK222 hb; have n1_ := xH HB hb; clear BK222 HB; have BK222 := n0_; have HB := n1_; clear n0_ n1_; (try clear hb); (try clear hb2); (try clear hk); (try clear hi); have hcz11_0 : w10.cell? ⟨gb222, 0, none⟩ = some (.int .i64 a0) := (blk_cell BK222.out 0).trans rfl; have hfz11_0 := blk_frozen BK222.out 0) | ((with_reducible refine gate_callee (f := 60) rfl ?_); refine goesL_ (some 14) rfl rfl Try.func60 (by kernel_rfl) rfl #[.int .i64 a0] rfl (by (try simp only [List.map_toArray, List.map_cons, List.map_nil]); first | done | rfl | (simp only [List.length_drop, List.length_take]; rfl)) ?_; (with_reducible refine (impl_IsPrime.calls k a0 true _ A6.out).mono ?_); rintro e w' ⟨rfl, ⟨nd, rfl⟩⟩; refine ⟨_, rfl, ?_⟩) | (go_at_fn G1; refine calls_of_args (args' := fi1 ++ ca1) (by simp) ?_; refine (HF1.out _ (uH HB.out)).mono ?_; rintro e w12 ⟨rfl, hb⟩; have n0_ := xB BK222 hb; have n1_ := xH HB hb; clear BK222 HB; have BK222 := n0_; have HB := n1_; clear n0_ n1_; (try clear hb)))
    go_ret
    exact ⟨by first | rfl | (simp [errW_none, errW_some] <;> rfl) | (simp [*, errW_none, errW_some] <;> rfl), uH HB.out⟩
   ·replace c8 := Bool.eq_false_iff.mpr c8
    subst c8
    have H1 : (some 2) = some r := by rw [if_neg (show ¬ (false = true) by decide)] at H; exact H
    clear H
    have H := H1
    clear H1
    obtain rfl := Option.some.inj H
    go_enter Try.func62, Try.ntmps62
    go_wp2_with (first | ((with_reducible refine gate_dst (N := 3) rfl ?_); refine box_event ?hg (N := 3) ?hd (cs := #[.int .i64 a0]) (t := 2) ?hr ?_; (case hd => rfl); (case hg => rfl); (case hr => first | (go_simp; done) | (go_simp; rfl)); intro gb222 hg w13 hbox hb; have n0_ := xH HB hb; have n1_ := zA (hbox); have n2_ := zA ((by rw [hg]; exact (below_size (uH HB.out)) : w.heap.size ≤ gb222)); have n3_ := zA ((by rw [hg]; exact (below_size (uH HB.out)) : w.heap.size ≤ gb222)); clear HB; have HB := n0_; have BK222 := n1_; have GW222 := n2_; have GE222 := n3_; have := geI GE222; clear n0_ n1_ n2_ n3_ hb hbox hg) | ((with_reducible refine gate_callee (f := 67) rfl ?_); refine goesL_ (some 10) rfl rfl Try.func67 (by kernel_rfl) rfl #[.slice A2 l2.length c2, (.func (.func 68) #[] #[.pointer (some ⟨gb222, 0, none⟩)])] rfl (by (try simp only [List.map_toArray, List.map_cons, List.map_nil]); first | done | rfl | (simp only [List.length_drop, List.length_take]; rfl)) ?_; (with_reducible refine (impl_areAll_rows.calls _ _ l2 _ (fun z_ => impl_polyCode_1.f z_ a0) true _ ?side1 ?side2 ?side3 A4.out).mono ?_); (case side1 => exact uC ((Kd.C_below HR2.out HB.out))); (case side2 => exact HC2.out); (case side3 => exact FnL.of Try.func68 (by kernel_rfl) rfl (fun z_ r_ A_ c_ hr_ W_ hW_ hC_ hc_ => calls_of_args (args' := #[.slice A_ z_.length c_, .pointer (some ⟨gb222, 0, none⟩)]) (by simp) ((impl_polyCode_1.calls A_ c_ z_ _ a0 r_ W_ hC_ hc_ (blk_below (g := gb222) (o := .cells #[.int .i64 a0] 2 (0, 0)) (uB BK222.out) hW_) hr_).mono fun e_ W2_ h_ => ⟨h_.1, h_.2⟩))); rintro e w14 ⟨rfl, hb⟩; refine ⟨_, rfl, ?_⟩; have n0_ := xB BK222 hb; have n1_ := xH HB hb; clear BK222 HB; have BK222 := n0_; have HB := n1_; clear n0_ n1_; (try clear hb); (try clear hb2); (try clear hk); (try clear hi); have hcz15_0 : w14.cell? ⟨gb222, 0, none⟩ = some (.int .i64 a0) := (blk_cell BK222.out 0).trans rfl; have hfz15_0 := blk_frozen BK222.out 0) | ((with_reducible refine gate_callee (f := 60) rfl ?_); refine goesL_ (some 14) rfl rfl Try.func60 (by kernel_rfl) rfl #[.int .i64 a0] rfl (by (try simp only [List.map_toArray, List.map_cons, List.map_nil]); first | done | rfl | (simp only [List.length_drop, List.length_take]; rfl)) ?_; (with_reducible refine (impl_IsPrime.calls k a0 true _ A6.out).mono ?_); rintro e w' ⟨rfl, ⟨nd, rfl⟩⟩; refine ⟨_, rfl, ?_⟩) | (go_at_fn G1; refine calls_of_args (args' := fi1 ++ ca1) (by simp) ?_; refine (HF1.out _ (uH HB.out)).mono ?_; rintro e w16 ⟨rfl, hb⟩; have n0_ := xB BK222 hb; have n1_ := xH HB hb; clear BK222 HB; have BK222 := n0_; have HB := n1_; clear n0_ n1_; (try clear hb)))
    go_ret
    exact ⟨by first | rfl | (simp [errW_none, errW_some] <;> rfl) | (simp [*, errW_none, errW_some] <;> rfl), uH HB.out⟩
  ·replace c7 := Bool.eq_false_iff.mpr c7
   subst c7
   have H1 : (some 2) = some r := by rw [if_neg (show ¬ (false = true) by decide)] at H; exact H
   clear H
   have H := H1
   clear H1
   obtain rfl := Option.some.inj H
   go_enter Try.func62, Try.ntmps62
   go_wp2_with (first | ((with_reducible refine gate_dst (N := 3) rfl ?_); refine box_event ?hg (N := 3) ?hd (cs := #[.int .i64 a0]) (t := 2) ?hr ?_; (case hd => rfl); (case hg => rfl); (case hr => first | (go_simp; done) | (go_simp; rfl)); intro gb222 hg w17 hbox hb; have n0_ := xH HB hb; have n1_ := zA (hbox); have n2_ := zA ((by rw [hg]; exact (below_size (uH HB.out)) : w.heap.size ≤ gb222)); have n3_ := zA ((by rw [hg]; exact (below_size (uH HB.out)) : w.heap.size ≤ gb222)); clear HB; have HB := n0_; have BK222 := n1_; have GW222 := n2_; have GE222 := n3_; have := geI GE222; clear n0_ n1_ n2_ n3_ hb hbox hg) | ((with_reducible refine gate_callee (f := 67) rfl ?_); refine goesL_ (some 10) rfl rfl Try.func67 (by kernel_rfl) rfl #[.slice A2 l2.length c2, (.func (.func 68) #[] #[.pointer (some ⟨gb222, 0, none⟩)])] rfl (by (try simp only [List.map_toArray, List.map_cons, List.map_nil]); first | done | rfl | (simp only [List.length_drop, List.length_take]; rfl)) ?_; (with_reducible refine (impl_areAll_rows.calls _ _ l2 _ (fun z_ => impl_polyCode_1.f z_ a0) true _ ?side1 ?side2 ?side3 A4.out).mono ?_); (case side1 => exact uC ((Kd.C_below HR2.out HB.out))); (case side2 => exact HC2.out); (case side3 => exact FnL.of Try.func68 (by kernel_rfl) rfl (fun z_ r_ A_ c_ hr_ W_ hW_ hC_ hc_ => calls_of_args (args' := #[.slice A_ z_.length c_, .pointer (some ⟨gb222, 0, none⟩)]) (by simp) ((impl_polyCode_1.calls A_ c_ z_ _ a0 r_ W_ hC_ hc_ (blk_below (g := gb222) (o := .cells #[.int .i64 a0] 2 (0, 0)) (uB BK222.out) hW_) hr_).mono fun e_ W2_ h_ => ⟨h_.1, h_.2⟩))); rintro e w18 ⟨rfl, hb⟩; refine ⟨_, rfl, ?_⟩; have n0_ := xB BK222 hb; have n1_ := xH HB hb; clear BK222 HB; have BK222 := n0_; have HB := n1_; clear n0_ n1_; (try clear hb); (try clear hb2); (try clear hk); (try clear hi); have hcz19_0 : w18.cell? ⟨gb222, 0, none⟩ = some (.int .i64 a0) := (blk_cell BK222.out 0).trans rfl; have hfz19_0 := blk_frozen BK222.out 0) | ((with_reducible refine gate_callee (f := 60) rfl ?_); refine goesL_ (some 14) rfl rfl Try.func60 (by kernel_rfl) rfl #[.int .i64 a0] rfl (by (try simp only [List.map_toArray, List.map_cons, List.map_nil]); first | done | rfl | (simp only [List.length_drop, List.length_take]; rfl)) ?_; (with_reducible refine (impl_IsPrime.calls k a0 false _ A6.out).mono ?_); rintro e w' ⟨rfl, ⟨nd, rfl⟩⟩; refine ⟨_, rfl, ?_⟩))
   go_ret
   exact ⟨by first | rfl | (simp [errW_none, errW_some] <;> rfl) | (simp [*, errW_none, errW_some] <;> rfl), uH HB.out⟩
 ·replace c5 := Bool.eq_false_iff.mpr c5
  subst c5
  have H1 : (some 1) = some r := by rw [if_neg (show ¬ (false = true) by decide)] at H; exact H
  clear H
  have H := H1
  clear H1
  obtain rfl := Option.some.inj H
  go_enter Try.func62, Try.ntmps62
  go_wp2_with (first | ((with_reducible refine gate_dst (N := 3) rfl ?_); refine box_event ?hg (N := 3) ?hd (cs := #[.int .i64 a0]) (t := 2) ?hr ?_; (case hd => rfl); (case hg => rfl); (case hr => first | (go_simp; done) | (go_simp; rfl)); intro gb222 hg w20 hbox hb; have n0_ := xH HB hb; have n1_ := zA (hbox); have n2_ := zA ((by rw [hg]; exact (below_size (uH HB.out)) : w.heap.size ≤ gb222)); have n3_ := zA ((by rw [hg]; exact (below_size (uH HB.out)) : w.heap.size ≤ gb222)); clear HB; have HB := n0_; have BK222 := n1_; have GW222 := n2_; have GE222 := n3_; have := geI GE222; clear n0_ n1_ n2_ n3_ hb hbox hg) | ((with_reducible refine gate_callee (f := 67) rfl ?_); refine goesL_ (some 10) rfl rfl Try.func67 (by kernel_rfl) rfl #[.slice A2 l2.length c2, (.func (.func 68) #[] #[.pointer (some ⟨gb222, 0, none⟩)])] rfl (by (try simp only [List.map_toArray, List.map_cons, List.map_nil]); first | done | rfl | (simp only [List.length_drop, List.length_take]; rfl)) ?_; (with_reducible refine (impl_areAll_rows.calls _ _ l2 _ (fun z_ => impl_polyCode_1.f z_ a0) false _ ?side1 ?side2 ?side3 A4.out).mono ?_); (case side1 => exact uC ((Kd.C_below HR2.out HB.out))); (case side2 => exact HC2.out); (case side3 => exact FnL.of Try.func68 (by kernel_rfl) rfl (fun z_ r_ A_ c_ hr_ W_ hW_ hC_ hc_ => calls_of_args (args' := #[.slice A_ z_.length c_, .pointer (some ⟨gb222, 0, none⟩)]) (by simp) ((impl_polyCode_1.calls A_ c_ z_ _ a0 r_ W_ hC_ hc_ (blk_below (g := gb222) (o := .cells #[.int .i64 a0] 2 (0, 0)) (uB BK222.out) hW_) hr_).mono fun e_ W2_ h_ => ⟨h_.1, h_.2⟩))); rintro e w21 ⟨rfl, hb⟩; refine ⟨_, rfl, ?_⟩; have n0_ := xB BK222 hb; have n1_ := xH HB hb; clear BK222 HB; have BK222 := n0_; have HB := n1_; clear n0_ n1_; (try clear hb); (try clear hb2); (try clear hk); (try clear hi)))
  go_ret
  exact ⟨by first | rfl | (simp [errW_none, errW_some] <;> rfl) | (simp [*, errW_none, errW_some] <;> rfl), uH HB.out⟩

end Go.Proofs.Ytcfiegapclbenaa.Pr
/- slices.Clone at []int64: a new row with the same numbers (nil stays nil). -/
namespace Go.Proofs.Ytcfiegapclbenaa.Pr
open Go.RowKit Go.Proofs.YtcfiegapclbenaaW.PrintWords Go.Proofs.YtcfiegapclbenaaW.PrintLast Go.Proofs.YtcfiegapclbenaaW.PrintMore
set_option linter.unusedVariables false
set_option linter.unusedSimpArgs false

def slices_Clone_ints.f (l : List Int) : Option (List Int) := if l.length < 17592186044416 then some l else none

set_option maxHeartbeats 8000000 in
set_option maxRecDepth 100000 in
theorem slices_Clone_ints.calls (A0 : Option Addr) (c0 : Nat) (l0 : List Int) (r : List Int) (w : World) (hr0 : Kd.C (Kd.int .i64) w A0 l0.length l0) (hc0 : l0.length ≤ c0) (h : slices_Clone_ints.f l0 = some r) :
    Calls Try.prog 64 #[.slice A0 l0.length c0] w fun e w' => ∃ v0_ : Value, e = .returned (v0_) ∧ Kd.R (Kd.int .i64) 2 w' w.heap.size (fun _ => True) v0_ r ∧ Below w.heap.size w w' := by
  have hnil : ∀ (W : World) (a : Option Addr) (n c : Nat), (Go.binOp .eql 22 (.slice a n c) (.slice none 0 0)).run Try.prog W = .ok (.bool a.isNone) W := fun W a n c => Lib.run_eql_slice_nil W 22 2 a n c 0 0 Try.underlying22
  unfold slices_Clone_ints.f at h
  split at h
  case isFalse => cases h
  rename_i c2
  obtain rfl := Option.some.inj h
  clear h
  have HR0 := Aside0.mk hr0
  have HC0 := Aside0.mk hc0
  clear hr0 hc0
  have HB := Aside0.mk (Below.refl w.heap.size w)
  have LMc2 := Aside0.mk c2
  clear c2
  cases A0 with
  | none =>
    have hl : l0 = [] := by
      rcases l0 with _ | ⟨x, l⟩
      · rfl
      · obtain ⟨ad, e, _⟩ := Kd.at_int HR0.out 0 (by omega) (by simp only [List.length_cons]; omega)
        cases e
    subst hl
    go_enter Try.func64, Try.ntmps64
    go_wp2
    go_ret
    exact ⟨_, rfl, Kd.R_nil _ _ _ _ _, HB.out⟩
  | some ad0 =>
    obtain ⟨y385, hy385⟩ : ∃ y_ : List Int, y_ = (([] : List Int)) := ⟨_, rfl⟩
    have Ny385 := Aside0.mk hy385
    clear hy385
    obtain ⟨y388, hy388⟩ : ∃ y_ : List Int, y_ = (y385 ++ l0) := ⟨_, rfl⟩
    have Ny388 := Aside0.mk hy388
    clear hy388
    go_enter Try.func64, Try.ntmps64
    go_wp2_with (first | ((with_reducible refine gate_dst (N := 5) rfl ?_); refine Kd.R_lit (Kd.int .i64) _ 2 ?hg (N := 5) ?hd (xs := ([] : List Int)) (inner := []) (ok := fun _ => True) (okp := fun _ => True) ?hr ?hp (fun _ hk => hk) trivial (Below.refl _ _) (Nat.le_refl _) (by simp) ?_; (case hd => rfl); (case hg => rfl); (case hr => first | (go_simp; done) | (go_simp; rfl)); (case hp => exact (Reps.none _ _)); intro v386 w3 ho4 hb hg_ hnew_; clear hg_ hnew_; (first | rw [← Ny385.out] at ho4 | (simp only [Int.reduceToNat] at ho4; rw [← Ny385.out] at ho4)); have n0_ := Aside0.mk (Kd.R_lower ho4 (below_size (by repeat (first | (with_reducible first | exact HB.out | apply below_alloc | apply pw_below_drewN | apply below_drew1) | exact HB.out)))); have n1_ := Aside0.mk (below_step (by repeat (first | (with_reducible first | exact HB.out | apply below_alloc | apply pw_below_drewN | apply below_drew1) | exact HB.out)) hb); clear HB; have HO387 := n0_; have HB := n1_; clear n0_ n1_; clear hb ho4) | ((with_reducible refine gate_builtin (b := .append) (xs := #[.tmp 5, .tmp 6]) rfl ?_); at_builtin; refine Kd.R_append_rows (Kd.int .i64) (w0 := w) w.heap.size rfl (.tmp 5) (.tmp 6) 22 2 (.int .i64 0) 8 rfl Try.underlying22 info2 rfl (by decide) (by omega) v386 y385 l0 _ _ _ (fun _ => True) (fun _ => False) rfl rfl ?aO ?aR (fun _ _ h => h) (fun _ h => h.elim) ?aF ?aB ?aS ?aL ?_; (case aR => repeat (first | exact (Kd.C_below HR0.out HB.out) | (with_reducible refine Kd.C_alloc ?_ _) | (with_reducible refine Kd.C_drewN ?_ _) | (with_reducible refine Kd.C_drew ?_))); (case aB => exact (by repeat (first | (with_reducible first | exact HB.out | apply below_alloc | apply pw_below_drewN | apply below_drew1) | exact HB.out))); (case aF => exact (fun _ _ => trivial)); (case aO => exact (by (with_reducible repeat (first | apply Kd.R_alloc | apply Kd.R_drewN | apply Kd.R_drew)); exact HO387.out)); (case aS => exact (below_size (by repeat (first | (with_reducible first | exact HB.out | apply below_alloc | apply pw_below_drewN | apply below_drew1) | exact HB.out)))); (case aL => have := LMc2.out; have e := Ny385.out; rw [e]; simp; omega); intro v389 w5 ho hb hg hat; rw [← Ny388.out] at ho; have n0_ := Aside0.mk (hb); have n1_ := Aside0.mk (ho); clear HB; clear HO387; have HB := n0_; have HO390 := n1_; clear n0_ n1_; clear ho hb hg hat))
    go_ret
    have e : l0 = y388 := by rw [Ny388.out, Ny385.out]; rfl
    rw [e]
    exact ⟨_, rfl, by (with_reducible repeat (first | apply Kd.R_alloc | apply Kd.R_drewN | apply Kd.R_drew)); exact HO390.out, by repeat (first | (with_reducible first | exact HB.out | apply below_alloc | apply pw_below_drewN | apply below_drew1) | exact HB.out)⟩
end Go.Proofs.Ytcfiegapclbenaa.Pr
/- Printed by a program of this session out of the translation: what these functions of the program compute, under the conditions that each theorem names. -/
namespace Go.Proofs.Ytcfiegapclbenaa.Pr
open Go.RowKit Go.Proofs.YtcfiegapclbenaaW.PrintWords Go.Proofs.YtcfiegapclbenaaW.PrintLast Go.Proofs.YtcfiegapclbenaaW.PrintMore
attribute [local go_sem] max2_int min2_int max_two min_two max_three min_three max_four min_four   -- for this text's walks alone
set_option linter.unusedVariables false
set_option linter.unusedSimpArgs false

/-! ### impl_Moments_with: function 47 -/
def impl_Moments_with.f (a0_0 : Int) (l0_1 : List Int) (l1 : List Int) : Option (Int × List Int) := (slices_Clone_ints.f l1).bind fun t293 => (some (a0_0, t293))
set_option maxHeartbeats 8000000 in
set_option maxRecDepth 100000 in
theorem impl_Moments_with.calls (a0_0 : Int) (A0_1 : Option Addr) (c0_1 : Nat) (l0_1 : List Int) (A1 : Option Addr) (c1 : Nat) (l1 : List Int) (r1 : Int) (r2 : List Int) (w : World) (hr0_1 : Kd.C (Kd.int .i64) w A0_1 l0_1.length l0_1) (hc0_1 : l0_1.length ≤ c0_1) (hr1 : Kd.C (Kd.int .i64) w A1 l1.length l1) (hc1 : l1.length ≤ c1) (h : impl_Moments_with.f a0_0 l0_1 l1 = some (r1, r2)) :
  Calls Try.prog 47 #[.agg #[.int .i64 a0_0, .slice A0_1 l0_1.length c0_1], .slice A1 l1.length c1] w fun e w' => ∃ v1_ : Value, e = .returned (.agg #[.int .i64 r1, v1_]) ∧ Kd.R (Kd.int .i64) 2 w' w.heap.size (fun _ => True) v1_ r2 ∧ Below w.heap.size w w' := by
 have hu36 := Try.underlying36
 have HR0_1 := zA hr0_1
 have HC0_1 := zA hc0_1
 clear hr0_1 hc0_1
 have HR1 := zA hr1
 have HC1 := zA hc1
 clear hr1 hc1
 have HB := zA (Below.refl w.heap.size w)
 have H : ((slices_Clone_ints.f l1).bind fun t293 => (some (a0_0, t293))) = some (r1, r2) := h
 clear h
 replace H := Option.bind_eq_some_iff.mp H
 obtain ⟨t293, A30, H⟩ := H
 replace H : (some (a0_0, t293)) = some (r1, r2) := H
 have A3 := zA A30
 clear A30
 simp only [Option.some.injEq, Prod.mk.injEq] at H
 obtain ⟨rfl, rfl⟩ := H
 go_enter Try.func47, Try.ntmps47
 try go_wp2_with (first | ((with_reducible refine gate_dst (N := 2) rfl ?_); refine box_event ?hg (N := 2) ?hd (cs := #[.int .i64 a0_0, .slice A0_1 l0_1.length c0_1]) (t := 36) ?hr ?_; (case hd => rfl); (case hg => rfl); (case hr => first | (go_simp; done) | (go_simp; rfl)); intro gb291 hg w4 hbox hb; have n0_ := xH HB hb; have n1_ := zA (hbox); have n2_ := zA ((by rw [hg]; exact (below_size (uH HB.out)) : w.heap.size ≤ gb291)); have n3_ := zA ((by rw [hg]; exact (below_size (uH HB.out)) : w.heap.size ≤ gb291)); clear HB; have HB := n0_; have BK291 := n1_; have GW291 := n2_; have GE291 := n3_; have := geI GE291; clear n0_ n1_ n2_ n3_ hb hbox hg) | ((with_reducible refine gate_dst (N := 4) rfl ?_); refine box_event ?hg (N := 4) ?hd (cs := #[.int .i64 0, .slice none 0 0]) (t := 36) ?hr ?_; (case hd => rfl); (case hg => rfl); (case hr => first | (go_simp; done) | (go_simp; rfl)); intro gb292 hg w5 hbox hb; have n0_ := xB BK291 hb; have n1_ := xH HB hb; have n2_ := zA (hbox); have n3_ := zA ((by rw [hg]; exact (below_size (uH HB.out)) : w.heap.size ≤ gb292)); have n4_ := zA ((by rw [hg]; exact (below_size (uH HB.out)) : w.heap.size ≤ gb292)); have n5_ := zA ((by rw [hg]; exact neL BK291 : gb291 ≠ gb292)); have n6_ := zA ((by rw [hg]; exact neG BK291 : gb292 ≠ gb291)); clear BK291 HB; have BK291 := n0_; have HB := n1_; have BK292 := n2_; have GW292 := n3_; have GE292 := n4_; have := geI GE292; have NB291_292 := n5_; have NB292_291 := n6_; clear n0_ n1_ n2_ n3_ n4_ n5_ n6_ hb hbox hg))
 have n0_ := zA (blk_drew BK291.out)
 have n1_ := zA (blk_drew BK292.out)
 have n2_ := zA (below_drew1 HB.out)
 clear BK291 BK292 HB
 have BK291 := n0_; have BK292 := n1_; have HB := n2_
 clear n0_ n1_ n2_
 refine start_ (n := 6) (S := fun w' => w'.cell? ⟨gb291, 0, none⟩ = some (.int .i64 a0_0) ∧ w'.cell? ⟨gb291, 1, none⟩ = some (.slice A0_1 l0_1.length c0_1)) (ds := []) #[false, false, false, false, false, false] (by kernel_rfl) rfl rfl ⟨(blk_cell BK291.out 0).trans rfl, (blk_cell BK291.out 1).trans rfl⟩ (fun hHeld => ?_)
 generalize w5.drew = w6 at BK291 BK292 HB hHeld ⊢
 refine pure_ (i := 0) (N := some 5) (v := ?_) (a' := ?_) #[true, false, false, false, false, false] rfl rfl (by kernel_rfl) (fun _ _ _ h => h) (Or.inl ⟨by rfl, ?_⟩) ?_ ?_
 rotate_left
 ·intro w'
  go_simp
  with_reducible rfl
 rotate_left
 ·simp only [Act.put, List.setIfInBounds_toArray, List.set_cons_zero, List.set_cons_succ, i64_w, i32_w]
  rfl
 refine pure_ (i := 2) (N := some 7) (v := ?_) (a' := ?_) #[true, false, true, false, false, false] rfl rfl (by kernel_rfl) (fun _ _ _ h => h) (Or.inl ⟨by rfl, ?_⟩) ?_ ?_
 rotate_left
 ·intro w'
  go_simp
  with_reducible rfl
 rotate_left
 ·simp only [Act.put, List.setIfInBounds_toArray, List.set_cons_zero, List.set_cons_succ, i64_w, i32_w]
  rfl
 refine take_ (i := 1) (N := some 6) (v := ?_) (a' := ?_) #[true, true, true, false, false, false] rfl rfl (by kernel_rfl) (fun _ _ _ h => h) (Or.inl ⟨by rfl, ?_⟩) hHeld ?_ ?_
 rotate_left
 ·rintro w' ⟨s0, s1⟩
  go_simp
  with_reducible rfl
 rotate_left
 ·simp only [Act.put, List.setIfInBounds_toArray, List.set_cons_zero, List.set_cons_succ, i64_w, i32_w]
  rfl
 refine one_ (i := 3) (N := some 8) #[true, true, true, true, false, false] rfl rfl (by kernel_rfl) (by decide) (fun K hK => ?_)
 refine goes_ Try.func64 (by kernel_rfl) rfl #[.slice A1 l1.length c1] (by rfl) rfl rfl (by (try simp only [List.map_toArray, List.map_cons, List.map_nil]); first | done | rfl | (simp only [List.length_drop, List.length_take]; rfl)) ?_
 with_reducible refine (slices_Clone_ints.calls _ _ l1 t293 _ ?side1 ?side2 A3.out).mono ?_
 (case side1 => exact uC ((Kd.C_below HR1.out HB.out)))
 (case side2 => exact HC1.out)
 rintro e w7 ⟨v294, rfl, ho0, hb⟩
 refine ⟨_, rfl, ?_⟩
 have n0_ := zA (Kd.R_lower ho0 (below_size (uH HB.out)))
 have n1_ := xB BK291 hb
 have n2_ := xB BK292 hb
 have n3_ := xH HB hb
 clear BK291 BK292 HB
 have HO295 := n0_; have BK291 := n1_; have BK292 := n2_; have HB := n3_
 clear n0_ n1_ n2_ n3_
 (try clear hb); (try clear hb2); (try clear hk); (try clear hi); (try clear ho0)
 obtain ⟨Ao8, co8, eo8⟩ := Kd.R_slice HO295.out
 (first | subst eo8 | (injection eo8 with f1_ f2_ f3_; have f4_ := f1_.symm; have f5_ := f3_.symm; clear f1_ f2_ f3_; subst f4_; subst f5_))
 refine hK.out _ _ ⟨(blk_cell BK291.out 0).trans rfl, (blk_cell BK291.out 1).trans rfl⟩ (fun hHeld => ?_)
 clear hK K
 refine norm_ (a' := ?_) ?_ ?_
 rotate_left
 ·show Act.put _ (some 8) _ = _
  simp only [Act.put, List.setIfInBounds_toArray, List.set_cons_zero, List.set_cons_succ, i64_w, i32_w]
  rfl
 refine pure_ (i := 4) (N := some 9) (v := ?_) (a' := ?_) #[true, true, true, true, true, false] rfl rfl (by kernel_rfl) (fun _ _ _ h => h) (Or.inl ⟨by rfl, ?_⟩) ?_ ?_
 rotate_left
 ·intro w'
  go_simp
  with_reducible rfl
 rotate_left
 ·simp only [Act.put, List.setIfInBounds_toArray, List.set_cons_zero, List.set_cons_succ, i64_w, i32_w]
  rfl
 refine one_ (i := 5) (N := none) #[true, true, true, true, true, true] rfl rfl (by kernel_rfl) (by decide) (fun K hK => ?_)
 have hs9 : w7.cell? ⟨gb292, 0, none⟩ = some (.int .i64 0) := (blk_cell BK292.out 0).trans rfl
 have hfs9 := blk_frozen BK292.out 0
 have hns9_0 := NB291_292.out; have hms9_0 := NB292_291.out
 have hs10 : w7.cell? ⟨gb292, 1, none⟩ = some (.slice none 0 0) := (blk_cell BK292.out 1).trans rfl
 have hfs10 := blk_frozen BK292.out 1
 have hns10_0 := NB291_292.out; have hms10_0 := NB292_291.out
 refine skip_ (w1 := ?_) (by rfl) rfl ?_ ?_
 rotate_left
 ·go_simp
  rfl
 refine hK.out _ _ ⟨((cell_far (p := ⟨gb292, _, none⟩) NB291_292.out _).trans (((cell_far (p := ⟨gb292, _, none⟩) NB291_292.out _).trans (hHeld.1)))), ((cell_far (p := ⟨gb292, _, none⟩) NB291_292.out _).trans (((cell_far (p := ⟨gb292, _, none⟩) NB291_292.out _).trans (hHeld.2))))⟩ (fun hHeld => ?_)
 clear hK K
 refine done_ (by kernel_rfl) ?_
 try go_wp2
 refine bodyPost_ret (results_cell_row rfl _ _ gb292 36 #[.int .i64 a0_0, .slice Ao8 t293.length co8] (0, 0) _ rfl (by (with_reducible repeat (first | refine blk_drewN ?_ _ | refine blk_drew ?_ | refine blk_alloc ?_ _)); refine blk_put (cs := #[.int .i64 a0_0, .slice none 0 0]) ?_ 1 _ rfl; (with_reducible repeat (first | refine blk_drewN ?_ _ | refine blk_drew ?_ | refine blk_alloc ?_ _)); refine blk_put (cs := #[.int .i64 0, .slice none 0 0]) ?_ 0 _ rfl; (with_reducible repeat (first | refine blk_drewN ?_ _ | refine blk_drew ?_ | refine blk_alloc ?_ _)); exact BK292.out) Try.underlying36 rfl (by kernel_rfl)) rfl ?_
 exact ⟨_, by first | rfl | (simp [errW_none, errW_some] <;> rfl) | (simp [*, errW_none, errW_some] <;> rfl), uR (Kd.R_mono (Kd.R_far (p := ⟨gb292, 1, none⟩) (Kd.R_far (p := ⟨gb292, 0, none⟩) (Kd.R_types HO295.out BK292.out (by decide)) (fun _ hk => hk.2) (.int .i64 a0_0)) (fun _ hk => hk.2) (.slice Ao8 t293.length co8)) (fun _ hk => trivial)), uH HB.out⟩

end Go.Proofs.Ytcfiegapclbenaa.Pr
/- Plain lemmas: rounds (Ev), wrapped sums, rests modulo p, lists read and written at an index. No program is in sight. -/
namespace Go.Proofs.Ytcfiegapclbenaa.Pr
open Go.RowKit Go.Proofs.YtcfiegapclbenaaW.PrintWords Go.Proofs.YtcfiegapclbenaaW.PrintLast Go.Proofs.YtcfiegapclbenaaW.PrintMore

section
variable {α β : Type}
theorem Ev.pos {c : Prop} [Decidable c] {X Y : Nat → Option α} {r : α} (h : c) (e : Ev X r) : Ev (fun k => if c then X k else Y k) r := by
  simpa only [if_pos h] using e
theorem Ev.neg {c : Prop} [Decidable c] {X Y : Nat → Option α} {r : α} (h : ¬ c) (e : Ev Y r) : Ev (fun k => if c then X k else Y k) r := by
  simpa only [if_neg h] using e
theorem Ev.eq {x : Option α} {r : α} (h : x = some r) : Ev (fun _ => x) r := ⟨0, fun _ _ => h⟩
theorem Ev.some' {r s : α} (h : r = s) : Ev (fun _ => some r) s := ⟨0, fun _ _ => by rw [h]⟩
theorem Ev.bindE {x : Option α} {f : Nat → α → Option β} {a : α} {r : β} (h : x = some a) (e : Ev (fun n => f n a) r) : Ev (fun n => x.bind (f n)) r := by
  subst h; simpa using e
theorem Ev.cast {g : Nat → Option α} {r s : α} (h : Ev g r) (e : r = s) : Ev g s := e ▸ h
theorem Ev.fn {g : Nat → Option α} {r s : α} (h : Ev g r) (h' : Ev g s) : r = s := by
  obtain ⟨K, h⟩ := h
  obtain ⟨K', h'⟩ := h'
  have a := h (max K K') (by omega)
  have b := h' (max K K') (by omega)
  rw [a] at b
  exact Option.some.inj b
end

theorem ne_self {α : Type} [BEq α] [LawfulBEq α] (a : α) : ¬ ((a != a) = true) := by simp

theorem wrap_id {x : Int} (h0 : -9223372036854775808 ≤ x) (h1 : x < 9223372036854775808) : wrap64 x = x := by unfold wrap64; omega
theorem wsucc {i n : Nat} (h : i < n) (hn : n < 4611686018427387904) : wrap64 ((i : Int) + 1) = ((i + 1 : Nat) : Int) := by unfold wrap64; omega
theorem wadd {i j n : Nat} (h : i + j < n) (hn : n < 4611686018427387904) : wrap64 ((i : Int) + (j : Int)) = ((i + j : Nat) : Int) := by unfold wrap64; omega
theorem wpred {i : Nat} (h : 0 < i) (hn : i < 4611686018427387904) : wrap64 ((i : Int) - 1) = ((i - 1 : Nat) : Int) := by unfold wrap64; omega

theorem rd_nat (l : List Int) (i : Nat) : rd l (i : Int) = l.getD i 0 := by simp [rd]
theorem rdL_nat (l : List (List Int)) (i : Nat) : rd_L1 l (i : Int) = l.getD i [] := by simp [rd_L1]
theorem getD_mem {α : Type} {l : List α} {i : Nat} {d : α} (h : i < l.length) : l.getD i d ∈ l := by
  simp only [List.getD_eq_getElem?_getD, List.getElem?_eq_getElem h, Option.getD_some]; exact List.getElem_mem h
theorem toNat_nat (i : Nat) : ((i : Int)).toNat = i := rfl

/-- A length that is small. -/
abbrev Sm (n : Nat) : Prop := n ≤ 1048576

/-- Numbers modulo p. -/
def Nm (p : Int) (l : List Int) : Prop := ∀ x ∈ l, 0 ≤ x ∧ x < p
theorem Nm.nil (p : Int) : Nm p [] := fun x h => by cases h
theorem Nm.cons {p x : Int} {l : List Int} (h0 : 0 ≤ x) (h1 : x < p) (h : Nm p l) : Nm p (x :: l) := fun y hy => by
  rcases List.mem_cons.1 hy with rfl | hy
  · exact ⟨h0, h1⟩
  · exact h y hy
theorem Nm.append {p : Int} {l m : List Int} (h : Nm p l) (h' : Nm p m) : Nm p (l ++ m) := fun y hy => by
  rcases List.mem_append.1 hy with hy | hy
  · exact h y hy
  · exact h' y hy
theorem Nm.get {p : Int} {l : List Int} (h : Nm p l) {i : Nat} (hi : i < l.length) : 0 ≤ l.getD i 0 ∧ l.getD i 0 < p := h _ (getD_mem hi)
theorem Nm.getp {p : Int} {l : List Int} (h : Nm p l) (hp : 0 < p) (i : Nat) : 0 ≤ l.getD i 0 ∧ l.getD i 0 < p := by
  by_cases hi : i < l.length
  · exact h.get hi
  · rw [List.getD_eq_getElem?_getD, List.getElem?_eq_none (by omega)]; exact ⟨Int.le_refl _, hp⟩
theorem Nm.take {p : Int} {l : List Int} (h : Nm p l) (n : Nat) : Nm p (l.take n) := fun x hx => h x (List.mem_of_mem_take hx)
theorem Nm.drop {p : Int} {l : List Int} (h : Nm p l) (n : Nat) : Nm p (l.drop n) := fun x hx => h x (List.mem_of_mem_drop hx)
theorem Nm.set {p x : Int} {l : List Int} (h : Nm p l) (h0 : 0 ≤ x) (h1 : x < p) (i : Nat) : Nm p (l.set i x) := fun y hy => by
  rcases List.mem_or_eq_of_mem_set hy with hy | rfl
  · exact h y hy
  · exact ⟨h0, h1⟩
theorem Nm.zeros {p : Int} (hp : 0 < p) (n : Nat) : Nm p (List.replicate n 0) := fun x hx => by
  rw [(List.mem_replicate.1 hx).2]; exact ⟨Int.le_refl _, hp⟩
instance (p : Int) (l : List Int) : Decidable (Nm p l) := by unfold Nm; infer_instance

theorem wf64 {x : Int} (h : (Lit.int .i64 x).wf = true) : -9223372036854775808 ≤ x ∧ x ≤ 9223372036854775807 := by
  have h2 : IntKind.i64.min ≤ x ∧ x ≤ 9223372036854775807 := by simpa [Lit.wf] using h
  exact h2
/-- A modulus that the program may have (in its range; a prime or not). -/
structure Pm (p : Int) : Prop where
  two : 2 ≤ p
  top : p ≤ 10007
theorem Pm.pos {p : Int} (h : Pm p) : 0 < p := by have := h.two; omega
theorem Pm.ne {p : Int} (h : Pm p) : p ≠ 0 := by have := h.two; omega

theorem mulB {a b m n : Int} (ha : 0 ≤ a) (ha' : a ≤ m) (hb : 0 ≤ b) (hb' : b ≤ n) : 0 ≤ a * b ∧ a * b ≤ m * n :=
  ⟨Int.mul_nonneg ha hb, Int.mul_le_mul ha' hb' hb (by omega)⟩
/-- A product of two numbers modulo p. -/
theorem mulP {p a b : Int} (hp : Pm p) (ha : 0 ≤ a) (ha' : a < p) (hb : 0 ≤ b) (hb' : b < p) : 0 ≤ a * b ∧ a * b ≤ 100140049 := by
  have h1 := hp.top
  have h := mulB (m := 10007) (n := 10007) ha (by omega) hb (by omega)
  exact ⟨h.1, by omega⟩
theorem tmod_pos {a b : Int} (h : 0 ≤ a) : Int.tmod a b = a % b := Int.tmod_eq_emod_of_nonneg h
theorem emodB {p : Int} (hp : 0 < p) (x : Int) : 0 ≤ x % p ∧ x % p < p := ⟨Int.emod_nonneg _ (by omega), Int.emod_lt_of_pos _ hp⟩
/-- Go's '(x % p + p) % p' is the rest of x. -/
theorem go_mod {p x : Int} (hp : Pm p) : Int.tmod (wrap64 (Int.tmod x p + p)) p = x % p := by
  have h2 := hp.two
  have ht := hp.top
  have h := Int.tmod_eq_emod (a := x) (b := p)
  have hb := emodB hp.pos x
  have hn : ((p.natAbs : Nat) : Int) = p := by omega
  split at h
  · rw [h, Int.natCast_zero, wrap_id (by omega) (by omega), tmod_pos (by omega), show x % p - 0 + p = x % p + p from by omega, Int.add_emod_right, Int.emod_emod]
  · rw [h, hn, wrap_id (by omega) (by omega), tmod_pos (by omega), show x % p - p + p = x % p from by omega, Int.emod_emod]

/-- A list without noughts at its end. -/
def trim (l : List Int) : List Int := (l.reverse.dropWhile (· == 0)).reverse
theorem trim_nil : trim [] = [] := rfl
theorem trim_snoc_zero (l : List Int) : trim (l ++ [0]) = trim l := by simp [trim]
theorem trim_snoc (l : List Int) {x : Int} (h : x ≠ 0) : trim (l ++ [x]) = l ++ [x] := by simp [trim, h]
theorem snocInd {α : Type} {P : List α → Prop} (h0 : P []) (h1 : ∀ l x, P l → P (l ++ [x])) (l : List α) : P l := by
  have h : ∀ l : List α, P l.reverse := by
    intro l
    induction l with
    | nil => exact h0
    | cons x l ih => rw [List.reverse_cons]; exact h1 _ _ ih
  simpa using h l.reverse
theorem trim_sub (l : List Int) : ∃ n, l = trim l ++ List.replicate n 0 := by
  induction l using snocInd with
  | h0 => exact ⟨0, rfl⟩
  | h1 l x ih =>
    by_cases h : x = 0
    · subst h
      obtain ⟨n, hn⟩ := ih
      refine ⟨n + 1, ?_⟩
      rw [trim_snoc_zero, List.replicate_succ', ← List.append_assoc, ← hn]
    · exact ⟨0, by rw [trim_snoc l h]; simp⟩
end Go.Proofs.Ytcfiegapclbenaa.Pr
/- What the laws' own helpers compute: copies, comparisons, marks. -/
namespace Go.Proofs.Ytcfiegapclbenaa.Pr
open Go.RowKit Go.Proofs.YtcfiegapclbenaaW.PrintWords Go.Proofs.YtcfiegapclbenaaW.PrintLast Go.Proofs.YtcfiegapclbenaaW.PrintMore

theorem set_take_step (l : List Int) (i : Nat) (h : i < l.length) : (l.take i ++ List.replicate (l.length - i) 0).set i (l.getD i 0) = l.take (i + 1) ++ List.replicate (l.length - (i + 1)) 0 := by
  obtain ⟨m, hm⟩ : ∃ m, l.length - i = m + 1 := ⟨l.length - i - 1, by omega⟩
  rw [List.set_append_right (h := by simp; omega)]
  rw [hm, List.replicate_succ]
  have e : i - (l.take i).length = 0 := by simp; omega
  rw [e, List.set_cons_zero, List.take_succ_eq_append_getElem h]
  have e2 : l.length - (i + 1) = m := by omega
  rw [e2, List.append_assoc]
  simp [List.getD, h]

theorem toInt64S_l0 (l : List Int) (hl : Sm l.length) (d : Nat) : ∀ i, i + d = l.length → Ev (fun k => laws_toInt64S.l0 k l (l.take i ++ List.replicate (l.length - i) 0) (i : Int)) l := by
  induction d with
  | zero =>
    intro i hi
    refine Ev.step (fun k => by rw [laws_toInt64S.l0]) ?_
    refine Ev.neg (by omega) (Ev.some' ?_)
    have e : l.length - i = 0 := by omega
    rw [e, List.take_of_length_le (by omega)]; simp
  | succ d ih =>
    intro i hi
    have hlen : (l.take i ++ List.replicate (l.length - i) (0 : Int)).length = l.length := by simp; omega
    refine Ev.step (fun k => by rw [laws_toInt64S.l0]) ?_
    refine Ev.pos (by omega) (Ev.pos (by omega) (Ev.pos (by rw [hlen]; omega) ?_))
    rw [toNat_nat, rd_nat, set_take_step l i (by omega), wsucc (i := i) (n := l.length) (by omega) (by unfold Sm at hl; omega)]
    exact ih (i + 1) (by omega)
theorem toInt64S_ev (l : List Int) (hl : Sm l.length) : Ev (fun k => laws_toInt64S.f k l) l := by
  unfold laws_toInt64S.f
  refine Ev.pos (by omega) (Ev.pos (by unfold Sm at hl; rw [toNat_nat]; omega) ?_)
  have h := toInt64S_l0 l hl l.length 0 (by omega)
  simpa using h

theorem eqInt64S_l0 (l : List Int) (hl : Sm l.length) (d : Nat) : ∀ i, i + d = l.length → Ev (fun k => laws_eqInt64S.l0 k l l (i : Int)) true := by
  induction d with
  | zero =>
    intro i hi
    refine Ev.step (fun k => by rw [laws_eqInt64S.l0]) ?_
    exact Ev.neg (by omega) (Ev.now _)
  | succ d ih =>
    intro i hi
    refine Ev.step (fun k => by rw [laws_eqInt64S.l0]) ?_
    refine Ev.pos (by omega) (Ev.pos (by omega) (Ev.pos (by omega) (Ev.pos rfl ?_)))
    rw [wsucc (i := i) (n := l.length) (by omega) (by unfold Sm at hl; omega)]
    exact ih (i + 1) (by omega)
theorem eqInt64S_ev (l : List Int) (hl : Sm l.length) : Ev (fun k => laws_eqInt64S.f k l l) true := by
  unfold laws_eqInt64S.f
  exact Ev.pos rfl (eqInt64S_l0 l hl l.length 0 (by omega))

/-- The marks m, m + 1, .. -/
def marks (m n : Nat) : List Int := (List.range n).map fun i => ((m + i : Nat) : Int)
theorem marks_length (m n : Nat) : (marks m n).length = n := by simp [marks]
theorem marks_get (m n i : Nat) (h : i < n) : (marks m n).getD i 0 = ((m + i : Nat) : Int) := by
  simp [marks, List.getD, h]

theorem markInt64S_l0 (l : List Int) (m : Nat) (hl : Sm l.length) (hm : m ≤ 4611686018427387904 - 4194304) (d : Nat) : ∀ i, i + d = l.length →
    Ev (fun k => laws_markInt64S.l0 k (marks m i ++ l.drop i) ((m + i : Nat) : Int) (i : Int)) (((m + l.length : Nat) : Int), marks m l.length) := by
  induction d with
  | zero =>
    intro i hi
    have hlen : (marks m i ++ l.drop i).length = l.length := by simp [marks_length]; omega
    refine Ev.step (fun k => by rw [laws_markInt64S.l0]) ?_
    refine Ev.neg (by rw [hlen]; omega) (Ev.some' ?_)
    have e : i = l.length := by omega
    subst e
    simp
  | succ d ih =>
    intro i hi
    have hlen : (marks m i ++ l.drop i).length = l.length := by simp [marks_length]; omega
    refine Ev.step (fun k => by rw [laws_markInt64S.l0]) ?_
    refine Ev.pos (by rw [hlen]; omega) (Ev.pos (by omega) ?_)
    have e : (marks m i ++ l.drop i).set ((i : Int)).toNat ((m + i : Nat) : Int) = marks m (i + 1) ++ l.drop (i + 1) := by
      rw [toNat_nat, List.set_append_right (h := by simp [marks_length])]
      rw [marks_length, Nat.sub_self, List.drop_eq_getElem_cons (by omega), List.set_cons_zero]
      unfold marks
      rw [List.range_succ, List.map_append, List.append_assoc]
      rfl
    rw [e, wsucc (i := i) (n := l.length) (by omega) (by unfold Sm at hl; omega), wsucc (i := m + i) (n := m + i + 1) (by omega) (by unfold Sm at hl; omega)]
    exact ih (i + 1) (by omega)
theorem markInt64S_ev (l : List Int) (m : Nat) (hl : Sm l.length) (hm : m ≤ 4611686018427387904 - 4194304) :
    Ev (fun k => laws_markInt64S.f k l (m : Int)) (((m + l.length : Nat) : Int), marks m l.length) := by
  unfold laws_markInt64S.f
  have h := markInt64S_l0 l m hl hm l.length 0 (by omega)
  simpa [marks] using h

theorem heldInt64S_l0 (n m : Nat) (hl : Sm n) (hm : m ≤ 4611686018427387904 - 4194304) (d : Nat) : ∀ i, i + d = n →
    Ev (fun k => laws_heldInt64S.l0 k (marks m n) ((m + i : Nat) : Int) (i : Int)) ((m + n : Nat) : Int) := by
  induction d with
  | zero =>
    intro i hi
    refine Ev.step (fun k => by rw [laws_heldInt64S.l0]) ?_
    refine Ev.neg (by rw [marks_length]; omega) (Ev.some' ?_)
    have e : i = n := by omega
    rw [e]
  | succ d ih =>
    intro i hi
    refine Ev.step (fun k => by rw [laws_heldInt64S.l0]) ?_
    refine Ev.pos (by rw [marks_length]; omega) (Ev.pos (by omega) (Ev.pos (by rw [rd_nat, marks_get m n i (by omega)]) ?_))
    rw [wsucc (i := i) (n := n) (by omega) (by unfold Sm at hl; omega), wsucc (i := m + i) (n := m + i + 1) (by omega) (by unfold Sm at hl; omega)]
    exact ih (i + 1) (by omega)
theorem heldInt64S_ev (n m : Nat) (hl : Sm n) (hm : m ≤ 4611686018427387904 - 4194304) : Ev (fun k => laws_heldInt64S.f k (marks m n) (m : Int)) ((m + n : Nat) : Int) := by
  unfold laws_heldInt64S.f
  exact heldInt64S_l0 n m hl hm n 0 (by omega)

theorem szInt64S_yes (l : List Int) (a : Nat) (ha : a ≤ 1048576) (h : l.length ≤ a) : laws_szInt64S.f l (a : Int) = some ((a - l.length : Nat) : Int) := by
  unfold laws_szInt64S.f
  rw [wrap_id (by omega) (by omega), if_neg (by omega)]
  congr 1
  omega
theorem szInt64S_no (l : List Int) (a : Nat) (hl : l.length ≤ 9223372036854775807) (ha : a ≤ 1048576) (h : a < l.length) : laws_szInt64S.f l (a : Int) = some (-1) := by
  unfold laws_szInt64S.f
  rw [wrap_id (by omega) (by omega), if_pos (by omega)]
end Go.Proofs.Ytcfiegapclbenaa.Pr
