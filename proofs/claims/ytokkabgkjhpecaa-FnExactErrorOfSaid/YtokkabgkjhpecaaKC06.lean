/- Texts of this session in one: what functions of the program compute, and plain facts of it, under the conditions that each theorem names. -/
import Derived.Test.YtokkabgkjhpecaaKC01
import Derived.Test.YtokkabgkjhpecaaKC04
import Derived.Test.YtokkabgkjhpecaaKC05
import Derived.Test.YtokkabgkjhpecaaWTab
/- Short steps of a walk through a region whose order is drawn (each stands for a row that the print spells out); no condition. -/
namespace Go.Proofs.Ytokkabgkjhpecaa.Pr
open Go Go.RowKit Go.Proofs.YtokkabgkjhpecaaW.PrintWords Go.Proofs.YtokkabgkjhpecaaW.PrintLast Go.Proofs.YtokkabgkjhpecaaW.PrintMore

/-- The lowest n bits of m. -/
def bq : Nat → Nat → List Bool
  | 0, _ => []
  | n + 1, m => (m % 2 == 1) :: bq n (m / 2)
def bl (n m : Nat) : Array Bool := ⟨bq n m⟩
section
variable {P : Program} {ops : Array Oper} {Q : Exit → Act → World → Prop} {S : World → Prop} {ds : List Nat} {T : Bool × List (List Nat × List Nat)} {B : List Nat} {fuel : Nat} {l : Array Bool} {a a' : Act} {w : World} {oi : Oper} {v : Value}
theorem pu_ (i : Nat) (N : Tmp) (l' : Array Bool) (HT : Aside0 (rtab .any ops = T)) (h : wpAnyLast P .any ops Q S ds fuel l' a' w)
    (hi : ops[i]? = some oi := by rfl) (hN : oi.dst = some N := by rfl) (hc : anyT T l.toList l'.toList i = true := by kernel_rfl)
    (hQ : ∀ c a w, Q (.panic c) (a.put oi.dst v) w → Q (.panic c) a w := by exact fun _ _ _ h => h)
    (hy : Yields P ops oi v a := by exact Or.inl ⟨by rfl, by intro w'; go_simp; with_reducible rfl⟩)
    (ha : a.put (some N) v = a' := by (simp only [Act.put, ls, lz, ln, i64_w, i32_w]; rfl)) : wpAnyLast P .any ops Q S ds (fuel + 1) l a w :=
  pure_ l' hi hN (any_of HT.out hc) hQ hy ha h
theorem un_ (i : Nat) (N : Tmp) (l' : Array Bool) (HT : Aside0 (rtab .any ops = T)) (h : wpAnyLast P .any ops Q S ds fuel l' a' w)
    (hi : ops[i]? = some oi := by rfl) (hN : oi.dst = some N := by rfl) (hc : anyT T l.toList l'.toList i = true := by kernel_rfl)
    (hQ : ∀ c a w, Q (.panic c) (a.put oi.dst undef) w → Q (.panic c) a w := by exact fun _ _ _ h => h)
    (hy : Yields P ops oi undef a := by exact Or.inr ⟨by rfl, rfl⟩)
    (ha : a.put (some N) undef = a' := by (simp only [Act.put, ls, lz, ln, i64_w, i32_w]; rfl)) : wpAnyLast P .any ops Q S ds (fuel + 1) l a w :=
  pure_ l' hi hN (any_of HT.out hc) hQ hy ha h
theorem ta_ (i : Nat) (N : Tmp) (l' : Array Bool) (HT : Aside0 (rtab .any ops = T)) (HW : Aside0 (waitsOk T.2 B = true)) (hS : S w) (h : wpAnyLast P .any ops Q S ds fuel l' a' w)
    (hi : ops[i]? = some oi := by rfl) (hN : oi.dst = some N := by rfl) (hc : takeW T B ds l.toList l'.toList i = true := by kernel_rfl)
    (hQ : ∀ c a w, Q (.panic c) (a.put oi.dst v) w → Q (.panic c) a w := by exact fun _ _ _ h => h)
    (hy : YieldsIf P ops S oi v a := by exact Or.inl ⟨by rfl, by intro w' hs; go_simp; with_reducible rfl⟩)
    (ha : a.put (some N) v = a' := by (simp only [Act.put, ls, lz, ln, i64_w, i32_w]; rfl)) : wpAnyLast P .any ops Q S ds (fuel + 1) l a w :=
  take_ l' hi hN (take_ofW HT.out HW.out hc) hQ hy hS ha h
theorem on_ (i : Nat) (N : Option Tmp) (l' : Array Bool) (HT : Aside0 (rtab .any ops = T))
    (h : ∀ K : Act → World → Prop, Shut (∀ a' w', S w' → (S w' → wpAnyLast P .any ops Q S ds fuel l' a' w') → K a' w') → if Region.wanted oi (yielded ops a.tmps) = true then Oper.wp P oi a w K Q else K (a.put N undef) w)
    (hi : ops[i]? = some oi := by rfl) (hN : oi.dst = N := by rfl) (hc : (readyT T.2 l.toList == [i] && l.toList.set i true == l'.toList) = true := by kernel_rfl) (hd : i ∉ ds := by decide) : wpAnyLast P .any ops Q S ds (fuel + 1) l a w :=
  one_ l' hi hN (one_of HT.out hc) hd h
theorem no_ {a0 : Act} (N : Tmp) (h : wpAnyLast P .any ops Q S ds fuel l a' w) (ha : a0.put (some N) v = a' := by (simp only [Act.put, ls, lz, ln, i64_w, i32_w]; rfl)) : wpAnyLast P .any ops Q S ds fuel l (a0.put (some N) v) w := norm_ ha h
end
end Go.Proofs.Ytokkabgkjhpecaa.Pr
/- Printed by a program of this session out of the translation: what these functions of the program compute, under the conditions that each theorem names. -/
namespace Go.Proofs.Ytokkabgkjhpecaa.Pr
open Go.RowKit Go.Proofs.YtokkabgkjhpecaaW.PrintWords Go.Proofs.YtokkabgkjhpecaaW.PrintLast Go.Proofs.YtokkabgkjhpecaaW.PrintMore
attribute [local go_sem] max2_int min2_int max_two min_two max_three min_three max_four min_four   -- for this text's walks alone
set_option linter.unusedVariables false
set_option linter.unusedSimpArgs false

/-! ### impl_AreMoments: function 130 -/
def impl_AreMoments.f (k : Nat) (a0_0 : Int) (l0_1 : List Int) : Option (Bool) := (impl_IsPrime.f k a0_0).bind fun t168 => (if t168 = true then ((impl_length_int64.f l0_1).bind fun t169 => ((impl_within.f t169 1 24).bind fun t170 => (if t170 = true then ((impl_Moments_field.f a0_0 l0_1).bind fun t171 => ((impl_areAll_int64.f l0_1 (fun z_ => impl_field_has.f t171 z_)).bind fun t172 => (some t172))) else (some false)))) else (some false))
theorem impl_AreMoments.mono : ∀ a0 a1 k, LeO (impl_AreMoments.f k a0 a1) (impl_AreMoments.f (k + 1) a0 a1) := by
 intro a0 a1 k
 unfold impl_AreMoments.f
 repeat' first
   | (with_reducible exact impl_IsPrime.mono _ _)
   | (with_reducible exact LeO.refl _)
   | (with_reducible exact LeO.none _)
   | (with_reducible refine LeO.ite ?_ ?_)
   | (with_reducible refine LeO.bind ?_ (fun _ => ?_))
   | exact impl_IsPrime.mono _ _
   | exact LeO.none _
   | refine LeO.ite ?_ ?_
   | refine LeO.bind ?_ (fun _ => ?_)
def impl_AreMoments.T1 : Bool × List (List Nat × List Nat) := (true, [([], []), ([0], [0]), ([1], [1]), ([2, 2], [2]), ([3], [3]), ([4, 3], [3, 4]), ([5, 3, 3], [3, 5]), ([6, 6, 3], [3, 6]), ([3, 7], [3, 7]), ([8, 7], [8]), ([9], [9]), ([10, 9], [9, 10]), ([9], [9]), ([12, 9, 9], [9, 12]), ([13, 9], [9, 13]), ([11, 14, 13, 9], [9, 11, 14]), ([9, 15], [9, 15]), ([16, 15, 0, 1, 2, 3, 4, 5, 6, 7, 8, 9, 10, 11, 12, 13, 14, 15, 16], [16])])
def impl_AreMoments.B1 : List Nat := [0, 1, 3, 7, 15, 31, 63, 127, 255, 511, 1023, 2047, 1023, 5119, 13311, 32767, 65535, 131071]
theorem impl_AreMoments.tab1 : rtab .any (opsOf Try.f130 1) = impl_AreMoments.T1 := by kernel_rfl
theorem impl_AreMoments.bits1 : waitsOk impl_AreMoments.T1.2 impl_AreMoments.B1 = true := by kernel_rfl
set_option maxHeartbeats 8000000 in
set_option maxRecDepth 100000 in
theorem impl_AreMoments.calls (k : Nat) (a0_0 : Int) (A0_1 : Option Addr) (c0_1 : Nat) (l0_1 : List Int) (r : Bool) (w : World) (hr0_1 : Kd.C (Kd.int .i64) w A0_1 l0_1.length l0_1) (hc0_1 : l0_1.length ≤ c0_1) (h : impl_AreMoments.f k a0_0 l0_1 = some r) :
  Calls Try.prog 130 #[.agg #[.int .i64 a0_0, .slice A0_1 l0_1.length c0_1]] w fun e w' => e = .returned (.bool r) ∧ Below w.heap.size w w' := by
 have hu31 := Try.underlying31
 have hmf : ∀ (fn_ : Fn) (first_ cap_ : Array Value) (w_ : World), (Instr.makeFunc fn_ first_ cap_).run Try.prog w_ = .ok (.func fn_ first_ cap_) w_ := fun _ _ _ _ => rfl
 have HR0_1 := zA hr0_1
 have HC0_1 := zA hc0_1
 clear hr0_1 hc0_1
 have HB := zA (Below.refl w.heap.size w)
 have H : ((impl_IsPrime.f k a0_0).bind fun t168 => (if t168 = true then ((impl_length_int64.f l0_1).bind fun t169 => ((impl_within.f t169 1 24).bind fun t170 => (if t170 = true then ((impl_Moments_field.f a0_0 l0_1).bind fun t171 => ((impl_areAll_int64.f l0_1 (fun z_ => impl_field_has.f t171 z_)).bind fun t172 => (some t172))) else (some false)))) else (some false))) = some r := h
 clear h
 replace H := Option.bind_eq_some_iff.mp H
 obtain ⟨t168, A20, H⟩ := H
 replace H : (if t168 = true then ((impl_length_int64.f l0_1).bind fun t169 => ((impl_within.f t169 1 24).bind fun t170 => (if t170 = true then ((impl_Moments_field.f a0_0 l0_1).bind fun t171 => ((impl_areAll_int64.f l0_1 (fun z_ => impl_field_has.f t171 z_)).bind fun t172 => (some t172))) else (some false)))) else (some false)) = some r := H
 have A2 := zA A20
 clear A20
 by_cases c3 : t168 = true
 ·subst c3
  have H1 : ((impl_length_int64.f l0_1).bind fun t169 => ((impl_within.f t169 1 24).bind fun t170 => (if t170 = true then ((impl_Moments_field.f a0_0 l0_1).bind fun t171 => ((impl_areAll_int64.f l0_1 (fun z_ => impl_field_has.f t171 z_)).bind fun t172 => (some t172))) else (some false)))) = some r := by rw [if_pos rfl] at H; exact H
  clear H
  have H := H1
  clear H1
  replace H := Option.bind_eq_some_iff.mp H
  obtain ⟨t169, A40, H⟩ := H
  replace H : ((impl_within.f t169 1 24).bind fun t170 => (if t170 = true then ((impl_Moments_field.f a0_0 l0_1).bind fun t171 => ((impl_areAll_int64.f l0_1 (fun z_ => impl_field_has.f t171 z_)).bind fun t172 => (some t172))) else (some false))) = some r := H
  have A4 := zA A40
  clear A40
  replace H := Option.bind_eq_some_iff.mp H
  obtain ⟨t170, A50, H⟩ := H
  replace H : (if t170 = true then ((impl_Moments_field.f a0_0 l0_1).bind fun t171 => ((impl_areAll_int64.f l0_1 (fun z_ => impl_field_has.f t171 z_)).bind fun t172 => (some t172))) else (some false)) = some r := H
  have A5 := zA A50
  clear A50
  by_cases c6 : t170 = true
  ·subst c6
   have H1 : ((impl_Moments_field.f a0_0 l0_1).bind fun t171 => ((impl_areAll_int64.f l0_1 (fun z_ => impl_field_has.f t171 z_)).bind fun t172 => (some t172))) = some r := by rw [if_pos rfl] at H; exact H
   clear H
   have H := H1
   clear H1
   replace H := Option.bind_eq_some_iff.mp H
   obtain ⟨t171, A70, H⟩ := H
   replace H : ((impl_areAll_int64.f l0_1 (fun z_ => impl_field_has.f t171 z_)).bind fun t172 => (some t172)) = some r := H
   have A7 := zA A70
   clear A70
   replace H := Option.bind_eq_some_iff.mp H
   obtain ⟨t172, A80, H⟩ := H
   replace H : (some t172) = some r := H
   have A8 := zA A80
   clear A80
   obtain rfl := Option.some.inj H
   go_enter Try.func130, Try.ntmps130
   try go_wp2_with (first | ((with_reducible refine gate_dst (N := 1) rfl ?_); refine box_event ?hg (N := 1) ?hd (cs := #[.int .i64 a0_0, .slice A0_1 l0_1.length c0_1]) (t := 31) ?hr ?_; (case hd => rfl); (case hg => rfl); (case hr => first | (go_simp; done) | (go_simp; rfl)); intro gb167 hg w9 hbox hb; have n0_ := xH HB hb; have n1_ := zA (hbox); have n2_ := zA ((by rw [hg]; exact (below_size (uH HB.out)) : w.heap.size ≤ gb167)); have n3_ := zA ((by rw [hg]; exact (below_size (uH HB.out)) : w.heap.size ≤ gb167)); clear HB; have HB := n0_; have BK167 := n1_; have GW167 := n2_; have GE167 := n3_; have := geI GE167; clear n0_ n1_ n2_ n3_ hb hbox hg))
   have n0_ := zA (blk_drew BK167.out)
   have n1_ := zA (below_drew1 HB.out)
   clear BK167 HB
   have BK167 := n0_; have HB := n1_
   clear n0_ n1_
   refine start_ (n := 18) (S := fun w' => w'.cell? ⟨gb167, 0, none⟩ = some (.int .i64 a0_0) ∧ w'.cell? ⟨gb167, 1, none⟩ = some (.slice A0_1 l0_1.length c0_1)) (ds := []) #[false, false, false, false, false, false, false, false, false, false, false, false, false, false, false, false, false, false] (by kernel_rfl) rfl rfl ⟨(blk_cell BK167.out 0).trans rfl, (blk_cell BK167.out 1).trans rfl⟩ (fun hHeld => ?_); refine with_tabW impl_AreMoments.tab1 impl_AreMoments.bits1 (fun HT_ HW_ => ?_)
   generalize w9.drew = w10 at BK167 HB hHeld ⊢
   refine pu_ 0 3 (bl 18 1) HT_ ?_
   refine ta_ 1 4 (bl 18 3) HT_ HW_ hHeld ?_
   refine on_ 2 (some 5) (bl 18 7) HT_ (fun K hK => ?_)
   refine goes_ Try.func149 (by kernel_rfl) rfl #[.int .i64 a0_0] (by rfl) rfl rfl (by (try simp only [la, lb, lc]); first | done | rfl | (simp only [ld, le]; rfl)) ?_
   with_reducible refine (impl_IsPrime.calls k a0_0 true _ A2.out).mono ?_
   rintro e w' ⟨rfl, ⟨nd, rfl⟩⟩
   refine ⟨_, rfl, ?_⟩
   refine hK.out _ _ ⟨(blk_cell BK167.out 0).trans rfl, (blk_cell BK167.out 1).trans rfl⟩ (fun hHeld => ?_)
   clear hK K
   refine no_ 5 ?_
   refine pu_ 3 6 (bl 18 15) HT_ ?_
   refine pu_ 4 7 (bl 18 31) HT_ ?_
   refine ta_ 5 8 (bl 18 63) HT_ HW_ hHeld ?_
   refine on_ 6 (some 9) (bl 18 127) HT_ (fun K hK => ?_)
   refine goes_ Try.func121 (by kernel_rfl) rfl #[.slice A0_1 l0_1.length c0_1] (by rfl) rfl rfl (by (try simp only [la, lb, lc]); first | done | rfl | (simp only [ld, le]; rfl)) ?_
   with_reducible refine (impl_length_int64.calls _ _ l0_1 t169 _ ?side1 ?side2 A4.out).mono ?_
   (case side1 => repeat (first | exact (Kd.C_below HR0_1.out (uH HB.out)) | (with_reducible refine Kd.C_alloc ?_ _) | (with_reducible refine Kd.C_drewN ?_ _) | (with_reducible refine Kd.C_drew ?_)))
   (case side2 => exact HC0_1.out)
   rintro e w' ⟨rfl, ⟨nd, rfl⟩⟩
   refine ⟨_, rfl, ?_⟩
   refine hK.out _ _ ⟨(blk_cell BK167.out 0).trans rfl, (blk_cell BK167.out 1).trans rfl⟩ (fun hHeld => ?_)
   clear hK K
   refine no_ 9 ?_
   refine on_ 7 (some 10) (bl 18 255) HT_ (fun K hK => ?_)
   refine goes_ Try.func74 (by kernel_rfl) rfl #[.int .i64 t169, .int .i64 1, .int .i64 24] (by rfl) rfl rfl (by (try simp only [la, lb, lc]); first | done | rfl | (simp only [ld, le]; rfl)) ?_
   with_reducible refine (impl_within.calls t169 1 24 true _ A5.out).mono ?_
   rintro e w' ⟨rfl, ⟨nd, rfl⟩⟩
   refine ⟨_, rfl, ?_⟩
   refine hK.out _ _ ⟨(blk_cell BK167.out 0).trans rfl, (blk_cell BK167.out 1).trans rfl⟩ (fun hHeld => ?_)
   clear hK K
   refine no_ 10 ?_
   refine pu_ 8 11 (bl 18 511) HT_ ?_
   refine pu_ 9 12 (bl 18 1023) HT_ ?_
   refine pu_ 10 13 (bl 18 2047) HT_ ?_
   refine ta_ 11 14 (bl 18 4095) HT_ HW_ hHeld ?_
   refine ta_ 12 15 (bl 18 8191) HT_ HW_ hHeld ?_
   refine on_ 13 (some 16) (bl 18 16383) HT_ (fun K hK => ?_)
   refine goes_ Try.func100 (by kernel_rfl) rfl #[.agg #[.int .i64 a0_0, .slice A0_1 l0_1.length c0_1]] (by rfl) rfl rfl (by (try simp only [la, lb, lc]); first | done | rfl | (simp only [ld, le]; rfl)) ?_
   with_reducible refine (impl_Moments_field.calls a0_0 _ _ l0_1 t171 _ ?side1 ?side2 A7.out).mono ?_
   (case side1 => repeat (first | exact (Kd.C_below HR0_1.out (uH HB.out)) | (with_reducible refine Kd.C_alloc ?_ _) | (with_reducible refine Kd.C_drewN ?_ _) | (with_reducible refine Kd.C_drew ?_)))
   (case side2 => exact HC0_1.out)
   rintro e w11 ⟨rfl, hb⟩
   refine ⟨_, rfl, ?_⟩
   have n0_ := xB BK167 hb
   have n1_ := xH HB hb
   clear BK167 HB
   have BK167 := n0_; have HB := n1_
   clear n0_ n1_
   (try clear hb); (try clear hb2); (try clear hk); (try clear hi)
   refine hK.out _ _ ⟨(blk_cell BK167.out 0).trans rfl, (blk_cell BK167.out 1).trans rfl⟩ (fun hHeld => ?_)
   clear hK K
   refine no_ 16 ?_
   refine pu_ 14 17 (bl 18 32767) HT_ ?_
   refine on_ 15 (some 18) (bl 18 65535) HT_ (fun K hK => ?_)
   refine goes_ Try.func146 (by kernel_rfl) rfl #[.slice A0_1 l0_1.length c0_1, (.func (.func 77) #[.int .i64 t171] #[])] (by rfl) rfl rfl (by (try simp only [la, lb, lc]); first | done | rfl | (simp only [ld, le]; rfl)) ?_
   with_reducible refine (impl_areAll_int64.calls _ _ l0_1 _ (fun z_ => impl_field_has.f t171 z_) t172 _ ?side1 ?side2 ?side3 A8.out).mono ?_
   (case side1 => exact uC ((Kd.C_below HR0_1.out HB.out)))
   (case side2 => exact HC0_1.out)
   (case side3 => exact FnI.of Try.func77 (by kernel_rfl) rfl (fun z_ r_ hr_ W_ hW_ => calls_of_args (args' := #[.int .i64 t171, .int .i64 z_]) (by simp) ((impl_field_has.calls t171 z_ r_ W_  hr_).mono fun e_ W2_ h_ => ⟨h_.1, h_.2.below⟩)))
   rintro e w12 ⟨rfl, hb⟩
   refine ⟨_, rfl, ?_⟩
   have n0_ := xB BK167 hb
   have n1_ := xH HB hb
   clear BK167 HB
   have BK167 := n0_; have HB := n1_
   clear n0_ n1_
   (try clear hb); (try clear hb2); (try clear hk); (try clear hi)
   refine hK.out _ _ ⟨(blk_cell BK167.out 0).trans rfl, (blk_cell BK167.out 1).trans rfl⟩ (fun hHeld => ?_)
   clear hK K
   refine no_ 18 ?_
   refine pu_ 16 19 (bl 18 131071) HT_ ?_
   refine pu_ 17 2 (bl 18 262143) HT_ ?_
   refine done_ (done_of HT_.out (by kernel_rfl)) ?_
   try go_wp2
   go_ret
   exact ⟨by first | rfl | (simp [errW_none, errW_some] <;> rfl) | (simp [*, errW_none, errW_some] <;> rfl), uH HB.out⟩
  ·replace c6 := Bool.eq_false_iff.mpr c6
   subst c6
   have H1 : (some false) = some r := by rw [if_neg (show ¬ (false = true) by decide)] at H; exact H
   clear H
   have H := H1
   clear H1
   obtain rfl := Option.some.inj H
   go_enter Try.func130, Try.ntmps130
   try go_wp2_with (first | ((with_reducible refine gate_dst (N := 1) rfl ?_); refine box_event ?hg (N := 1) ?hd (cs := #[.int .i64 a0_0, .slice A0_1 l0_1.length c0_1]) (t := 31) ?hr ?_; (case hd => rfl); (case hg => rfl); (case hr => first | (go_simp; done) | (go_simp; rfl)); intro gb167 hg w13 hbox hb; have n0_ := xH HB hb; have n1_ := zA (hbox); have n2_ := zA ((by rw [hg]; exact (below_size (uH HB.out)) : w.heap.size ≤ gb167)); have n3_ := zA ((by rw [hg]; exact (below_size (uH HB.out)) : w.heap.size ≤ gb167)); clear HB; have HB := n0_; have BK167 := n1_; have GW167 := n2_; have GE167 := n3_; have := geI GE167; clear n0_ n1_ n2_ n3_ hb hbox hg))
   have n0_ := zA (blk_drew BK167.out)
   have n1_ := zA (below_drew1 HB.out)
   clear BK167 HB
   have BK167 := n0_; have HB := n1_
   clear n0_ n1_
   refine start_ (n := 18) (S := fun w' => w'.cell? ⟨gb167, 0, none⟩ = some (.int .i64 a0_0) ∧ w'.cell? ⟨gb167, 1, none⟩ = some (.slice A0_1 l0_1.length c0_1)) (ds := []) #[false, false, false, false, false, false, false, false, false, false, false, false, false, false, false, false, false, false] (by kernel_rfl) rfl rfl ⟨(blk_cell BK167.out 0).trans rfl, (blk_cell BK167.out 1).trans rfl⟩ (fun hHeld => ?_); refine with_tabW impl_AreMoments.tab1 impl_AreMoments.bits1 (fun HT_ HW_ => ?_)
   generalize w13.drew = w14 at BK167 HB hHeld ⊢
   refine pu_ 0 3 (bl 18 1) HT_ ?_
   refine ta_ 1 4 (bl 18 3) HT_ HW_ hHeld ?_
   refine on_ 2 (some 5) (bl 18 7) HT_ (fun K hK => ?_)
   refine goes_ Try.func149 (by kernel_rfl) rfl #[.int .i64 a0_0] (by rfl) rfl rfl (by (try simp only [la, lb, lc]); first | done | rfl | (simp only [ld, le]; rfl)) ?_
   with_reducible refine (impl_IsPrime.calls k a0_0 true _ A2.out).mono ?_
   rintro e w' ⟨rfl, ⟨nd, rfl⟩⟩
   refine ⟨_, rfl, ?_⟩
   refine hK.out _ _ ⟨(blk_cell BK167.out 0).trans rfl, (blk_cell BK167.out 1).trans rfl⟩ (fun hHeld => ?_)
   clear hK K
   refine no_ 5 ?_
   refine pu_ 3 6 (bl 18 15) HT_ ?_
   refine pu_ 4 7 (bl 18 31) HT_ ?_
   refine ta_ 5 8 (bl 18 63) HT_ HW_ hHeld ?_
   refine on_ 6 (some 9) (bl 18 127) HT_ (fun K hK => ?_)
   refine goes_ Try.func121 (by kernel_rfl) rfl #[.slice A0_1 l0_1.length c0_1] (by rfl) rfl rfl (by (try simp only [la, lb, lc]); first | done | rfl | (simp only [ld, le]; rfl)) ?_
   with_reducible refine (impl_length_int64.calls _ _ l0_1 t169 _ ?side1 ?side2 A4.out).mono ?_
   (case side1 => repeat (first | exact (Kd.C_below HR0_1.out (uH HB.out)) | (with_reducible refine Kd.C_alloc ?_ _) | (with_reducible refine Kd.C_drewN ?_ _) | (with_reducible refine Kd.C_drew ?_)))
   (case side2 => exact HC0_1.out)
   rintro e w' ⟨rfl, ⟨nd, rfl⟩⟩
   refine ⟨_, rfl, ?_⟩
   refine hK.out _ _ ⟨(blk_cell BK167.out 0).trans rfl, (blk_cell BK167.out 1).trans rfl⟩ (fun hHeld => ?_)
   clear hK K
   refine no_ 9 ?_
   refine on_ 7 (some 10) (bl 18 255) HT_ (fun K hK => ?_)
   refine goes_ Try.func74 (by kernel_rfl) rfl #[.int .i64 t169, .int .i64 1, .int .i64 24] (by rfl) rfl rfl (by (try simp only [la, lb, lc]); first | done | rfl | (simp only [ld, le]; rfl)) ?_
   with_reducible refine (impl_within.calls t169 1 24 false _ A5.out).mono ?_
   rintro e w' ⟨rfl, ⟨nd, rfl⟩⟩
   refine ⟨_, rfl, ?_⟩
   refine hK.out _ _ ⟨(blk_cell BK167.out 0).trans rfl, (blk_cell BK167.out 1).trans rfl⟩ (fun hHeld => ?_)
   clear hK K
   refine no_ 10 ?_
   refine pu_ 8 11 (bl 18 511) HT_ ?_
   refine pu_ 9 12 (bl 18 1023) HT_ ?_
   refine un_ 10 13 (bl 18 2047) HT_ ?_
   refine un_ 11 14 (bl 18 4095) HT_ ?_
   refine un_ 12 15 (bl 18 8191) HT_ ?_
   refine un_ 13 16 (bl 18 16383) HT_ ?_
   refine un_ 14 17 (bl 18 32767) HT_ ?_
   refine un_ 15 18 (bl 18 65535) HT_ ?_
   refine pu_ 16 19 (bl 18 131071) HT_ ?_
   refine pu_ 17 2 (bl 18 262143) HT_ ?_
   refine done_ (done_of HT_.out (by kernel_rfl)) ?_
   try go_wp2
   go_ret
   exact ⟨by first | rfl | (simp [errW_none, errW_some] <;> rfl) | (simp [*, errW_none, errW_some] <;> rfl), uH HB.out⟩
 ·replace c3 := Bool.eq_false_iff.mpr c3
  subst c3
  have H1 : (some false) = some r := by rw [if_neg (show ¬ (false = true) by decide)] at H; exact H
  clear H
  have H := H1
  clear H1
  obtain rfl := Option.some.inj H
  go_enter Try.func130, Try.ntmps130
  try go_wp2_with (first | ((with_reducible refine gate_dst (N := 1) rfl ?_); refine box_event ?hg (N := 1) ?hd (cs := #[.int .i64 a0_0, .slice A0_1 l0_1.length c0_1]) (t := 31) ?hr ?_; (case hd => rfl); (case hg => rfl); (case hr => first | (go_simp; done) | (go_simp; rfl)); intro gb167 hg w15 hbox hb; have n0_ := xH HB hb; have n1_ := zA (hbox); have n2_ := zA ((by rw [hg]; exact (below_size (uH HB.out)) : w.heap.size ≤ gb167)); have n3_ := zA ((by rw [hg]; exact (below_size (uH HB.out)) : w.heap.size ≤ gb167)); clear HB; have HB := n0_; have BK167 := n1_; have GW167 := n2_; have GE167 := n3_; have := geI GE167; clear n0_ n1_ n2_ n3_ hb hbox hg))
  have n0_ := zA (blk_drew BK167.out)
  have n1_ := zA (below_drew1 HB.out)
  clear BK167 HB
  have BK167 := n0_; have HB := n1_
  clear n0_ n1_
  refine start_ (n := 18) (S := fun w' => w'.cell? ⟨gb167, 0, none⟩ = some (.int .i64 a0_0) ∧ w'.cell? ⟨gb167, 1, none⟩ = some (.slice A0_1 l0_1.length c0_1)) (ds := []) #[false, false, false, false, false, false, false, false, false, false, false, false, false, false, false, false, false, false] (by kernel_rfl) rfl rfl ⟨(blk_cell BK167.out 0).trans rfl, (blk_cell BK167.out 1).trans rfl⟩ (fun hHeld => ?_); refine with_tabW impl_AreMoments.tab1 impl_AreMoments.bits1 (fun HT_ HW_ => ?_)
  generalize w15.drew = w16 at BK167 HB hHeld ⊢
  refine pu_ 0 3 (bl 18 1) HT_ ?_
  refine ta_ 1 4 (bl 18 3) HT_ HW_ hHeld ?_
  refine on_ 2 (some 5) (bl 18 7) HT_ (fun K hK => ?_)
  refine goes_ Try.func149 (by kernel_rfl) rfl #[.int .i64 a0_0] (by rfl) rfl rfl (by (try simp only [la, lb, lc]); first | done | rfl | (simp only [ld, le]; rfl)) ?_
  with_reducible refine (impl_IsPrime.calls k a0_0 false _ A2.out).mono ?_
  rintro e w' ⟨rfl, ⟨nd, rfl⟩⟩
  refine ⟨_, rfl, ?_⟩
  refine hK.out _ _ ⟨(blk_cell BK167.out 0).trans rfl, (blk_cell BK167.out 1).trans rfl⟩ (fun hHeld => ?_)
  clear hK K
  refine no_ 5 ?_
  refine pu_ 3 6 (bl 18 15) HT_ ?_
  refine un_ 4 7 (bl 18 31) HT_ ?_
  refine un_ 5 8 (bl 18 63) HT_ ?_
  refine un_ 6 9 (bl 18 127) HT_ ?_
  refine un_ 7 10 (bl 18 255) HT_ ?_
  refine pu_ 8 11 (bl 18 511) HT_ ?_
  refine pu_ 9 12 (bl 18 1023) HT_ ?_
  refine un_ 10 13 (bl 18 2047) HT_ ?_
  refine un_ 11 14 (bl 18 4095) HT_ ?_
  refine un_ 12 15 (bl 18 8191) HT_ ?_
  refine un_ 13 16 (bl 18 16383) HT_ ?_
  refine un_ 14 17 (bl 18 32767) HT_ ?_
  refine un_ 15 18 (bl 18 65535) HT_ ?_
  refine pu_ 16 19 (bl 18 131071) HT_ ?_
  refine pu_ 17 2 (bl 18 262143) HT_ ?_
  refine done_ (done_of HT_.out (by kernel_rfl)) ?_
  try go_wp2
  go_ret
  exact ⟨by first | rfl | (simp [errW_none, errW_some] <;> rfl) | (simp [*, errW_none, errW_some] <;> rfl), uH HB.out⟩

end Go.Proofs.Ytokkabgkjhpecaa.Pr
/- Printed by a program of this session out of the translation: what these functions of the program compute, under the conditions that each theorem names. -/
namespace Go.Proofs.Ytokkabgkjhpecaa.Pr
open Go.RowKit Go.Proofs.YtokkabgkjhpecaaW.PrintWords Go.Proofs.YtokkabgkjhpecaaW.PrintLast Go.Proofs.YtokkabgkjhpecaaW.PrintMore
attribute [local go_sem] max2_int min2_int max_two min_two max_three min_three max_four min_four   -- for this text's walks alone
set_option linter.unusedVariables false
set_option linter.unusedSimpArgs false

/-! ### impl_IsRule: function 131 -/
def impl_IsRule.f (k : Nat) (a0_0 : Int) (l0_1 : List Int) (l0_2 : List Int) : Option (Bool) := (impl_areNumbers.f k a0_0 l0_1 0 24).bind fun t180 => (if t180 = true then ((impl_areAscending.f k l0_1).bind fun t181 => (if t181 = true then ((impl_length_int64.f l0_1).bind fun t182 => ((impl_length_int64.f l0_1).bind fun t183 => ((impl_areNumbers.f k a0_0 l0_2 t182 t183).bind fun t184 => (some t184)))) else (some false))) else (some false))
theorem impl_IsRule.mono : ∀ a0 a1 a2 k, LeO (impl_IsRule.f k a0 a1 a2) (impl_IsRule.f (k + 1) a0 a1 a2) := by
 intro a0 a1 a2 k
 unfold impl_IsRule.f
 repeat' first
   | (with_reducible exact impl_areAscending.mono _ _)
   | (with_reducible exact impl_areNumbers.mono _ _ _ _ _)
   | (with_reducible exact LeO.refl _)
   | (with_reducible exact LeO.none _)
   | (with_reducible refine LeO.ite ?_ ?_)
   | (with_reducible refine LeO.bind ?_ (fun _ => ?_))
   | exact impl_areAscending.mono _ _
   | exact impl_areNumbers.mono _ _ _ _ _
   | exact LeO.none _
   | refine LeO.ite ?_ ?_
   | refine LeO.bind ?_ (fun _ => ?_)
def impl_IsRule.T1 : Bool × List (List Nat × List Nat) := (true, [([], []), ([0], [0]), ([], []), ([2], [2]), ([1, 3], [1, 3]), ([4, 4], [4]), ([5], [5]), ([6, 5], [5, 6]), ([7, 5, 5], [5, 7]), ([5, 8], [5, 8]), ([9, 8], [9]), ([10], [10]), ([11, 10], [10, 11]), ([10], [10]), ([13, 10], [10, 13]), ([10], [10]), ([15, 10], [10, 15]), ([16, 10, 10], [10, 16]), ([10], [10]), ([18, 10], [10, 18]), ([19, 17, 10], [10, 19]), ([12, 14, 17, 20, 20, 10], [10, 12, 14, 17, 20]), ([10, 21], [10, 21]), ([22, 21, 0, 1, 2, 3, 4, 5, 6, 7, 8, 9, 10, 11, 12, 13, 14, 15, 16, 17, 18, 19, 20, 21, 22], [22])])
def impl_IsRule.B1 : List Nat := [0, 1, 0, 4, 15, 31, 63, 127, 255, 511, 1023, 2047, 4095, 2047, 10239, 2047, 34815, 100351, 2047, 264191, 1017855, 2097151, 4194303, 8388607]
theorem impl_IsRule.tab1 : rtab .any (opsOf Try.f131 1) = impl_IsRule.T1 := by kernel_rfl
theorem impl_IsRule.bits1 : waitsOk impl_IsRule.T1.2 impl_IsRule.B1 = true := by kernel_rfl
set_option maxHeartbeats 8000000 in
set_option maxRecDepth 100000 in
theorem impl_IsRule.calls (k : Nat) (a0_0 : Int) (A0_1 : Option Addr) (c0_1 : Nat) (l0_1 : List Int) (A0_2 : Option Addr) (c0_2 : Nat) (l0_2 : List Int) (r : Bool) (w : World) (hr0_1 : Kd.C (Kd.int .i64) w A0_1 l0_1.length l0_1) (hc0_1 : l0_1.length ≤ c0_1) (hr0_2 : Kd.C (Kd.int .i64) w A0_2 l0_2.length l0_2) (hc0_2 : l0_2.length ≤ c0_2) (h : impl_IsRule.f k a0_0 l0_1 l0_2 = some r) :
  Calls Try.prog 131 #[.agg #[.int .i64 a0_0, .slice A0_1 l0_1.length c0_1, .slice A0_2 l0_2.length c0_2]] w fun e w' => e = .returned (.bool r) ∧ Below w.heap.size w w' := by
 have hu33 := Try.underlying33
 have HR0_1 := zA hr0_1
 have HC0_1 := zA hc0_1
 clear hr0_1 hc0_1
 have HR0_2 := zA hr0_2
 have HC0_2 := zA hc0_2
 clear hr0_2 hc0_2
 have HB := zA (Below.refl w.heap.size w)
 have H : ((impl_areNumbers.f k a0_0 l0_1 0 24).bind fun t180 => (if t180 = true then ((impl_areAscending.f k l0_1).bind fun t181 => (if t181 = true then ((impl_length_int64.f l0_1).bind fun t182 => ((impl_length_int64.f l0_1).bind fun t183 => ((impl_areNumbers.f k a0_0 l0_2 t182 t183).bind fun t184 => (some t184)))) else (some false))) else (some false))) = some r := h
 clear h
 replace H := Option.bind_eq_some_iff.mp H
 obtain ⟨t180, A20, H⟩ := H
 replace H : (if t180 = true then ((impl_areAscending.f k l0_1).bind fun t181 => (if t181 = true then ((impl_length_int64.f l0_1).bind fun t182 => ((impl_length_int64.f l0_1).bind fun t183 => ((impl_areNumbers.f k a0_0 l0_2 t182 t183).bind fun t184 => (some t184)))) else (some false))) else (some false)) = some r := H
 have A2 := zA A20
 clear A20
 by_cases c3 : t180 = true
 ·subst c3
  have H1 : ((impl_areAscending.f k l0_1).bind fun t181 => (if t181 = true then ((impl_length_int64.f l0_1).bind fun t182 => ((impl_length_int64.f l0_1).bind fun t183 => ((impl_areNumbers.f k a0_0 l0_2 t182 t183).bind fun t184 => (some t184)))) else (some false))) = some r := by rw [if_pos rfl] at H; exact H
  clear H
  have H := H1
  clear H1
  replace H := Option.bind_eq_some_iff.mp H
  obtain ⟨t181, A40, H⟩ := H
  replace H : (if t181 = true then ((impl_length_int64.f l0_1).bind fun t182 => ((impl_length_int64.f l0_1).bind fun t183 => ((impl_areNumbers.f k a0_0 l0_2 t182 t183).bind fun t184 => (some t184)))) else (some false)) = some r := H
  have A4 := zA A40
  clear A40
  by_cases c5 : t181 = true
  ·subst c5
   have H1 : ((impl_length_int64.f l0_1).bind fun t182 => ((impl_length_int64.f l0_1).bind fun t183 => ((impl_areNumbers.f k a0_0 l0_2 t182 t183).bind fun t184 => (some t184)))) = some r := by rw [if_pos rfl] at H; exact H
   clear H
   have H := H1
   clear H1
   replace H := Option.bind_eq_some_iff.mp H
   obtain ⟨t182, A60, H⟩ := H
   replace H : ((impl_length_int64.f l0_1).bind fun t183 => ((impl_areNumbers.f k a0_0 l0_2 t182 t183).bind fun t184 => (some t184))) = some r := H
   have A6 := zA A60
   clear A60
   replace H := Option.bind_eq_some_iff.mp H
   obtain ⟨t183, A70, H⟩ := H
   replace H : ((impl_areNumbers.f k a0_0 l0_2 t182 t183).bind fun t184 => (some t184)) = some r := H
   have A7 := zA A70
   clear A70
   replace H := Option.bind_eq_some_iff.mp H
   obtain ⟨t184, A80, H⟩ := H
   replace H : (some t184) = some r := H
   have A8 := zA A80
   clear A80
   obtain rfl := Option.some.inj H
   go_enter Try.func131, Try.ntmps131
   try go_wp2_with (first | ((with_reducible refine gate_dst (N := 1) rfl ?_); refine box_event ?hg (N := 1) ?hd (cs := #[.int .i64 a0_0, .slice A0_1 l0_1.length c0_1, .slice A0_2 l0_2.length c0_2]) (t := 33) ?hr ?_; (case hd => rfl); (case hg => rfl); (case hr => first | (go_simp; done) | (go_simp; rfl)); intro gb179 hg w9 hbox hb; have n0_ := xH HB hb; have n1_ := zA (hbox); have n2_ := zA ((by rw [hg]; exact (below_size (uH HB.out)) : w.heap.size ≤ gb179)); have n3_ := zA ((by rw [hg]; exact (below_size (uH HB.out)) : w.heap.size ≤ gb179)); clear HB; have HB := n0_; have BK179 := n1_; have GW179 := n2_; have GE179 := n3_; have := geI GE179; clear n0_ n1_ n2_ n3_ hb hbox hg))
   have n0_ := zA (blk_drew BK179.out)
   have n1_ := zA (below_drew1 HB.out)
   clear BK179 HB
   have BK179 := n0_; have HB := n1_
   clear n0_ n1_
   refine start_ (n := 24) (S := fun w' => w'.cell? ⟨gb179, 0, none⟩ = some (.int .i64 a0_0) ∧ w'.cell? ⟨gb179, 1, none⟩ = some (.slice A0_1 l0_1.length c0_1) ∧ w'.cell? ⟨gb179, 2, none⟩ = some (.slice A0_2 l0_2.length c0_2)) (ds := []) #[false, false, false, false, false, false, false, false, false, false, false, false, false, false, false, false, false, false, false, false, false, false, false, false] (by kernel_rfl) rfl rfl ⟨(blk_cell BK179.out 0).trans rfl, (blk_cell BK179.out 1).trans rfl, (blk_cell BK179.out 2).trans rfl⟩ (fun hHeld => ?_); refine with_tabW impl_IsRule.tab1 impl_IsRule.bits1 (fun HT_ HW_ => ?_)
   generalize w9.drew = w10 at BK179 HB hHeld ⊢
   refine pu_ 0 3 (bl 24 1) HT_ ?_
   refine pu_ 2 5 (bl 24 5) HT_ ?_
   refine ta_ 1 4 (bl 24 7) HT_ HW_ hHeld ?_
   refine ta_ 3 6 (bl 24 15) HT_ HW_ hHeld ?_
   refine on_ 4 (some 7) (bl 24 31) HT_ (fun K hK => ?_)
   refine goes_ Try.func150 (by kernel_rfl) rfl #[.int .i64 a0_0, .slice A0_1 l0_1.length c0_1, .int .i64 0, .int .i64 24] (by rfl) rfl rfl (by (try simp only [la, lb, lc]); first | done | rfl | (simp only [ld, le]; rfl)) ?_
   with_reducible refine (impl_areNumbers.calls k a0_0 _ _ l0_1 0 24 true _ ?side1 ?side2 A2.out).mono ?_
   (case side1 => exact uC ((Kd.C_below HR0_1.out HB.out)))
   (case side2 => exact HC0_1.out)
   rintro e w11 ⟨rfl, hb⟩
   refine ⟨_, rfl, ?_⟩
   have n0_ := xB BK179 hb
   have n1_ := xH HB hb
   clear BK179 HB
   have BK179 := n0_; have HB := n1_
   clear n0_ n1_
   (try clear hb); (try clear hb2); (try clear hk); (try clear hi)
   refine hK.out _ _ ⟨(blk_cell BK179.out 0).trans rfl, (blk_cell BK179.out 1).trans rfl, (blk_cell BK179.out 2).trans rfl⟩ (fun hHeld => ?_)
   clear hK K
   refine no_ 7 ?_
   refine pu_ 5 8 (bl 24 63) HT_ ?_
   refine pu_ 6 9 (bl 24 127) HT_ ?_
   refine ta_ 7 10 (bl 24 255) HT_ HW_ hHeld ?_
   refine on_ 8 (some 11) (bl 24 511) HT_ (fun K hK => ?_)
   refine goes_ Try.func151 (by kernel_rfl) rfl #[.slice A0_1 l0_1.length c0_1] (by rfl) rfl rfl (by (try simp only [la, lb, lc]); first | done | rfl | (simp only [ld, le]; rfl)) ?_
   with_reducible refine (impl_areAscending.calls k _ _ l0_1 true _ ?side1 ?side2 A4.out).mono ?_
   (case side1 => exact uC ((Kd.C_below HR0_1.out HB.out)))
   (case side2 => exact HC0_1.out)
   rintro e w' ⟨rfl, ⟨nd, rfl⟩⟩
   refine ⟨_, rfl, ?_⟩
   refine hK.out _ _ ⟨(blk_cell BK179.out 0).trans rfl, (blk_cell BK179.out 1).trans rfl, (blk_cell BK179.out 2).trans rfl⟩ (fun hHeld => ?_)
   clear hK K
   refine no_ 11 ?_
   refine pu_ 9 12 (bl 24 1023) HT_ ?_
   refine pu_ 10 13 (bl 24 2047) HT_ ?_
   refine pu_ 11 14 (bl 24 4095) HT_ ?_
   refine pu_ 13 16 (bl 24 12287) HT_ ?_
   refine pu_ 15 18 (bl 24 45055) HT_ ?_
   refine pu_ 18 21 (bl 24 307199) HT_ ?_
   refine ta_ 12 15 (bl 24 311295) HT_ HW_ hHeld ?_
   refine ta_ 14 17 (bl 24 327679) HT_ HW_ hHeld ?_
   refine ta_ 16 19 (bl 24 393215) HT_ HW_ hHeld ?_
   refine ta_ 19 22 (bl 24 917503) HT_ HW_ hHeld ?_
   refine on_ 17 (some 20) (bl 24 1048575) HT_ (fun K hK => ?_)
   refine goes_ Try.func121 (by kernel_rfl) rfl #[.slice A0_1 l0_1.length c0_1] (by rfl) rfl rfl (by (try simp only [la, lb, lc]); first | done | rfl | (simp only [ld, le]; rfl)) ?_
   with_reducible refine (impl_length_int64.calls _ _ l0_1 t182 _ ?side1 ?side2 A6.out).mono ?_
   (case side1 => repeat (first | exact (Kd.C_below HR0_1.out (uH HB.out)) | (with_reducible refine Kd.C_alloc ?_ _) | (with_reducible refine Kd.C_drewN ?_ _) | (with_reducible refine Kd.C_drew ?_)))
   (case side2 => exact HC0_1.out)
   rintro e w' ⟨rfl, ⟨nd, rfl⟩⟩
   refine ⟨_, rfl, ?_⟩
   refine hK.out _ _ ⟨(blk_cell BK179.out 0).trans rfl, (blk_cell BK179.out 1).trans rfl, (blk_cell BK179.out 2).trans rfl⟩ (fun hHeld => ?_)
   clear hK K
   refine no_ 20 ?_
   refine on_ 20 (some 23) (bl 24 2097151) HT_ (fun K hK => ?_)
   refine goes_ Try.func121 (by kernel_rfl) rfl #[.slice A0_1 l0_1.length c0_1] (by rfl) rfl rfl (by (try simp only [la, lb, lc]); first | done | rfl | (simp only [ld, le]; rfl)) ?_
   with_reducible refine (impl_length_int64.calls _ _ l0_1 t183 _ ?side1 ?side2 A7.out).mono ?_
   (case side1 => repeat (first | exact (Kd.C_below HR0_1.out (uH HB.out)) | (with_reducible refine Kd.C_alloc ?_ _) | (with_reducible refine Kd.C_drewN ?_ _) | (with_reducible refine Kd.C_drew ?_)))
   (case side2 => exact HC0_1.out)
   rintro e w' ⟨rfl, ⟨nd, rfl⟩⟩
   refine ⟨_, rfl, ?_⟩
   refine hK.out _ _ ⟨(blk_cell BK179.out 0).trans rfl, (blk_cell BK179.out 1).trans rfl, (blk_cell BK179.out 2).trans rfl⟩ (fun hHeld => ?_)
   clear hK K
   refine no_ 23 ?_
   refine on_ 21 (some 24) (bl 24 4194303) HT_ (fun K hK => ?_)
   refine goes_ Try.func150 (by kernel_rfl) rfl #[.int .i64 a0_0, .slice A0_2 l0_2.length c0_2, .int .i64 t182, .int .i64 t183] (by rfl) rfl rfl (by (try simp only [la, lb, lc]); first | done | rfl | (simp only [ld, le]; rfl)) ?_
   with_reducible refine (impl_areNumbers.calls k a0_0 _ _ l0_2 t182 t183 t184 _ ?side1 ?side2 A8.out).mono ?_
   (case side1 => repeat (first | exact (Kd.C_below HR0_2.out (uH HB.out)) | (with_reducible refine Kd.C_alloc ?_ _) | (with_reducible refine Kd.C_drewN ?_ _) | (with_reducible refine Kd.C_drew ?_)))
   (case side2 => exact HC0_2.out)
   rintro e w12 ⟨rfl, hb⟩
   refine ⟨_, rfl, ?_⟩
   have n0_ := xB BK179 hb
   have n1_ := xH HB hb
   clear BK179 HB
   have BK179 := n0_; have HB := n1_
   clear n0_ n1_
   (try clear hb); (try clear hb2); (try clear hk); (try clear hi)
   refine hK.out _ _ ⟨(blk_cell BK179.out 0).trans rfl, (blk_cell BK179.out 1).trans rfl, (blk_cell BK179.out 2).trans rfl⟩ (fun hHeld => ?_)
   clear hK K
   refine no_ 24 ?_
   refine pu_ 22 25 (bl 24 8388607) HT_ ?_
   refine pu_ 23 2 (bl 24 16777215) HT_ ?_
   refine done_ (done_of HT_.out (by kernel_rfl)) ?_
   try go_wp2
   go_ret
   exact ⟨by first | rfl | (simp [errW_none, errW_some] <;> rfl) | (simp [*, errW_none, errW_some] <;> rfl), uH HB.out⟩
  ·replace c5 := Bool.eq_false_iff.mpr c5
   subst c5
   have H1 : (some false) = some r := by rw [if_neg (show ¬ (false = true) by decide)] at H; exact H
   clear H
   have H := H1
   clear H1
   obtain rfl := Option.some.inj H
   go_enter Try.func131, Try.ntmps131
   try go_wp2_with (first | ((with_reducible refine gate_dst (N := 1) rfl ?_); refine box_event ?hg (N := 1) ?hd (cs := #[.int .i64 a0_0, .slice A0_1 l0_1.length c0_1, .slice A0_2 l0_2.length c0_2]) (t := 33) ?hr ?_; (case hd => rfl); (case hg => rfl); (case hr => first | (go_simp; done) | (go_simp; rfl)); intro gb179 hg w13 hbox hb; have n0_ := xH HB hb; have n1_ := zA (hbox); have n2_ := zA ((by rw [hg]; exact (below_size (uH HB.out)) : w.heap.size ≤ gb179)); have n3_ := zA ((by rw [hg]; exact (below_size (uH HB.out)) : w.heap.size ≤ gb179)); clear HB; have HB := n0_; have BK179 := n1_; have GW179 := n2_; have GE179 := n3_; have := geI GE179; clear n0_ n1_ n2_ n3_ hb hbox hg))
   have n0_ := zA (blk_drew BK179.out)
   have n1_ := zA (below_drew1 HB.out)
   clear BK179 HB
   have BK179 := n0_; have HB := n1_
   clear n0_ n1_
   refine start_ (n := 24) (S := fun w' => w'.cell? ⟨gb179, 0, none⟩ = some (.int .i64 a0_0) ∧ w'.cell? ⟨gb179, 1, none⟩ = some (.slice A0_1 l0_1.length c0_1) ∧ w'.cell? ⟨gb179, 2, none⟩ = some (.slice A0_2 l0_2.length c0_2)) (ds := []) #[false, false, false, false, false, false, false, false, false, false, false, false, false, false, false, false, false, false, false, false, false, false, false, false] (by kernel_rfl) rfl rfl ⟨(blk_cell BK179.out 0).trans rfl, (blk_cell BK179.out 1).trans rfl, (blk_cell BK179.out 2).trans rfl⟩ (fun hHeld => ?_); refine with_tabW impl_IsRule.tab1 impl_IsRule.bits1 (fun HT_ HW_ => ?_)
   generalize w13.drew = w14 at BK179 HB hHeld ⊢
   refine pu_ 0 3 (bl 24 1) HT_ ?_
   refine pu_ 2 5 (bl 24 5) HT_ ?_
   refine ta_ 1 4 (bl 24 7) HT_ HW_ hHeld ?_
   refine ta_ 3 6 (bl 24 15) HT_ HW_ hHeld ?_
   refine on_ 4 (some 7) (bl 24 31) HT_ (fun K hK => ?_)
   refine goes_ Try.func150 (by kernel_rfl) rfl #[.int .i64 a0_0, .slice A0_1 l0_1.length c0_1, .int .i64 0, .int .i64 24] (by rfl) rfl rfl (by (try simp only [la, lb, lc]); first | done | rfl | (simp only [ld, le]; rfl)) ?_
   with_reducible refine (impl_areNumbers.calls k a0_0 _ _ l0_1 0 24 true _ ?side1 ?side2 A2.out).mono ?_
   (case side1 => exact uC ((Kd.C_below HR0_1.out HB.out)))
   (case side2 => exact HC0_1.out)
   rintro e w15 ⟨rfl, hb⟩
   refine ⟨_, rfl, ?_⟩
   have n0_ := xB BK179 hb
   have n1_ := xH HB hb
   clear BK179 HB
   have BK179 := n0_; have HB := n1_
   clear n0_ n1_
   (try clear hb); (try clear hb2); (try clear hk); (try clear hi)
   refine hK.out _ _ ⟨(blk_cell BK179.out 0).trans rfl, (blk_cell BK179.out 1).trans rfl, (blk_cell BK179.out 2).trans rfl⟩ (fun hHeld => ?_)
   clear hK K
   refine no_ 7 ?_
   refine pu_ 5 8 (bl 24 63) HT_ ?_
   refine pu_ 6 9 (bl 24 127) HT_ ?_
   refine ta_ 7 10 (bl 24 255) HT_ HW_ hHeld ?_
   refine on_ 8 (some 11) (bl 24 511) HT_ (fun K hK => ?_)
   refine goes_ Try.func151 (by kernel_rfl) rfl #[.slice A0_1 l0_1.length c0_1] (by rfl) rfl rfl (by (try simp only [la, lb, lc]); first | done | rfl | (simp only [ld, le]; rfl)) ?_
   with_reducible refine (impl_areAscending.calls k _ _ l0_1 false _ ?side1 ?side2 A4.out).mono ?_
   (case side1 => exact uC ((Kd.C_below HR0_1.out HB.out)))
   (case side2 => exact HC0_1.out)
   rintro e w' ⟨rfl, ⟨nd, rfl⟩⟩
   refine ⟨_, rfl, ?_⟩
   refine hK.out _ _ ⟨(blk_cell BK179.out 0).trans rfl, (blk_cell BK179.out 1).trans rfl, (blk_cell BK179.out 2).trans rfl⟩ (fun hHeld => ?_)
   clear hK K
   refine no_ 11 ?_
   refine pu_ 9 12 (bl 24 1023) HT_ ?_
   refine pu_ 10 13 (bl 24 2047) HT_ ?_
   refine un_ 11 14 (bl 24 4095) HT_ ?_
   refine un_ 12 15 (bl 24 8191) HT_ ?_
   refine un_ 13 16 (bl 24 16383) HT_ ?_
   refine un_ 14 17 (bl 24 32767) HT_ ?_
   refine un_ 15 18 (bl 24 65535) HT_ ?_
   refine un_ 16 19 (bl 24 131071) HT_ ?_
   refine un_ 17 20 (bl 24 262143) HT_ ?_
   refine un_ 18 21 (bl 24 524287) HT_ ?_
   refine un_ 19 22 (bl 24 1048575) HT_ ?_
   refine un_ 20 23 (bl 24 2097151) HT_ ?_
   refine un_ 21 24 (bl 24 4194303) HT_ ?_
   refine pu_ 22 25 (bl 24 8388607) HT_ ?_
   refine pu_ 23 2 (bl 24 16777215) HT_ ?_
   refine done_ (done_of HT_.out (by kernel_rfl)) ?_
   try go_wp2
   go_ret
   exact ⟨by first | rfl | (simp [errW_none, errW_some] <;> rfl) | (simp [*, errW_none, errW_some] <;> rfl), uH HB.out⟩
 ·replace c3 := Bool.eq_false_iff.mpr c3
  subst c3
  have H1 : (some false) = some r := by rw [if_neg (show ¬ (false = true) by decide)] at H; exact H
  clear H
  have H := H1
  clear H1
  obtain rfl := Option.some.inj H
  go_enter Try.func131, Try.ntmps131
  try go_wp2_with (first | ((with_reducible refine gate_dst (N := 1) rfl ?_); refine box_event ?hg (N := 1) ?hd (cs := #[.int .i64 a0_0, .slice A0_1 l0_1.length c0_1, .slice A0_2 l0_2.length c0_2]) (t := 33) ?hr ?_; (case hd => rfl); (case hg => rfl); (case hr => first | (go_simp; done) | (go_simp; rfl)); intro gb179 hg w16 hbox hb; have n0_ := xH HB hb; have n1_ := zA (hbox); have n2_ := zA ((by rw [hg]; exact (below_size (uH HB.out)) : w.heap.size ≤ gb179)); have n3_ := zA ((by rw [hg]; exact (below_size (uH HB.out)) : w.heap.size ≤ gb179)); clear HB; have HB := n0_; have BK179 := n1_; have GW179 := n2_; have GE179 := n3_; have := geI GE179; clear n0_ n1_ n2_ n3_ hb hbox hg))
  have n0_ := zA (blk_drew BK179.out)
  have n1_ := zA (below_drew1 HB.out)
  clear BK179 HB
  have BK179 := n0_; have HB := n1_
  clear n0_ n1_
  refine start_ (n := 24) (S := fun w' => w'.cell? ⟨gb179, 0, none⟩ = some (.int .i64 a0_0) ∧ w'.cell? ⟨gb179, 1, none⟩ = some (.slice A0_1 l0_1.length c0_1) ∧ w'.cell? ⟨gb179, 2, none⟩ = some (.slice A0_2 l0_2.length c0_2)) (ds := []) #[false, false, false, false, false, false, false, false, false, false, false, false, false, false, false, false, false, false, false, false, false, false, false, false] (by kernel_rfl) rfl rfl ⟨(blk_cell BK179.out 0).trans rfl, (blk_cell BK179.out 1).trans rfl, (blk_cell BK179.out 2).trans rfl⟩ (fun hHeld => ?_); refine with_tabW impl_IsRule.tab1 impl_IsRule.bits1 (fun HT_ HW_ => ?_)
  generalize w16.drew = w17 at BK179 HB hHeld ⊢
  refine pu_ 0 3 (bl 24 1) HT_ ?_
  refine pu_ 2 5 (bl 24 5) HT_ ?_
  refine ta_ 1 4 (bl 24 7) HT_ HW_ hHeld ?_
  refine ta_ 3 6 (bl 24 15) HT_ HW_ hHeld ?_
  refine on_ 4 (some 7) (bl 24 31) HT_ (fun K hK => ?_)
  refine goes_ Try.func150 (by kernel_rfl) rfl #[.int .i64 a0_0, .slice A0_1 l0_1.length c0_1, .int .i64 0, .int .i64 24] (by rfl) rfl rfl (by (try simp only [la, lb, lc]); first | done | rfl | (simp only [ld, le]; rfl)) ?_
  with_reducible refine (impl_areNumbers.calls k a0_0 _ _ l0_1 0 24 false _ ?side1 ?side2 A2.out).mono ?_
  (case side1 => exact uC ((Kd.C_below HR0_1.out HB.out)))
  (case side2 => exact HC0_1.out)
  rintro e w18 ⟨rfl, hb⟩
  refine ⟨_, rfl, ?_⟩
  have n0_ := xB BK179 hb
  have n1_ := xH HB hb
  clear BK179 HB
  have BK179 := n0_; have HB := n1_
  clear n0_ n1_
  (try clear hb); (try clear hb2); (try clear hk); (try clear hi)
  refine hK.out _ _ ⟨(blk_cell BK179.out 0).trans rfl, (blk_cell BK179.out 1).trans rfl, (blk_cell BK179.out 2).trans rfl⟩ (fun hHeld => ?_)
  clear hK K
  refine no_ 7 ?_
  refine pu_ 5 8 (bl 24 63) HT_ ?_
  refine un_ 6 9 (bl 24 127) HT_ ?_
  refine un_ 7 10 (bl 24 255) HT_ ?_
  refine un_ 8 11 (bl 24 511) HT_ ?_
  refine pu_ 9 12 (bl 24 1023) HT_ ?_
  refine pu_ 10 13 (bl 24 2047) HT_ ?_
  refine un_ 11 14 (bl 24 4095) HT_ ?_
  refine un_ 12 15 (bl 24 8191) HT_ ?_
  refine un_ 13 16 (bl 24 16383) HT_ ?_
  refine un_ 14 17 (bl 24 32767) HT_ ?_
  refine un_ 15 18 (bl 24 65535) HT_ ?_
  refine un_ 16 19 (bl 24 131071) HT_ ?_
  refine un_ 17 20 (bl 24 262143) HT_ ?_
  refine un_ 18 21 (bl 24 524287) HT_ ?_
  refine un_ 19 22 (bl 24 1048575) HT_ ?_
  refine un_ 20 23 (bl 24 2097151) HT_ ?_
  refine un_ 21 24 (bl 24 4194303) HT_ ?_
  refine pu_ 22 25 (bl 24 8388607) HT_ ?_
  refine pu_ 23 2 (bl 24 16777215) HT_ ?_
  refine done_ (done_of HT_.out (by kernel_rfl)) ?_
  try go_wp2
  go_ret
  exact ⟨by first | rfl | (simp [errW_none, errW_some] <;> rfl) | (simp [*, errW_none, errW_some] <;> rfl), uH HB.out⟩

end Go.Proofs.Ytokkabgkjhpecaa.Pr
/- Printed by a program of this session out of the translation: what these functions of the program compute, under the conditions that each theorem names. -/
namespace Go.Proofs.Ytokkabgkjhpecaa.Pr
open Go.RowKit Go.Proofs.YtokkabgkjhpecaaW.PrintWords Go.Proofs.YtokkabgkjhpecaaW.PrintLast Go.Proofs.YtokkabgkjhpecaaW.PrintMore
attribute [local go_sem] max2_int min2_int max_two min_two max_three min_three max_four min_four   -- for this text's walks alone
set_option linter.unusedVariables false
set_option linter.unusedSimpArgs false

/-! ### impl_Moments_apply: function 102 -/
def impl_Moments_apply.l0 : Nat → Int → List Int → Int → Int → Int → List Int → Option (Int)
 | 0, _, _, _, _, _, _ => none
 | k + 1, x5, x8, x9, x10, x207000, x207001 => if x10 < x9 then (if 0 ≤ x10 then (if x10 < (x8.length : Int) then ((impl_Moments_field.f x207000 x207001).bind fun t208 => (if x10 < (x207001.length : Int) then ((impl_field_mod.f t208 (wrap64 (x5 + (wrap64 ((rd x8 x10) * (rd x207001 x10)))))).bind fun t210 => (impl_Moments_apply.l0 k t210 x8 x9 (wrap64 (x10 + 1)) x207000 x207001)) else (none))) else (none)) else (none)) else (some x5)
def impl_Moments_apply.f (k : Nat) (a0_0 : Int) (l0_1 : List Int) (l1 : List Int) : Option (Int) := impl_Moments_apply.l0 k 0 l1 (l1.length : Int) 0 a0_0 l0_1
theorem impl_Moments_apply.mono_l : ∀ k, (∀ y0 y1 y2 y3 y4 y5, LeO (impl_Moments_apply.l0 k y0 y1 y2 y3 y4 y5) (impl_Moments_apply.l0 (k + 1) y0 y1 y2 y3 y4 y5))
 | 0 => fun _ _ _ _ _ _ r h => by simp [impl_Moments_apply.l0] at h
 | k + 1 => by
  have ih0 := impl_Moments_apply.mono_l k
  ·intro y0 y1 y2 y3 y4 y5
   unfold impl_Moments_apply.l0
   repeat' first
   | (with_reducible exact ih0 _ _ _ _ _ _)
   | (with_reducible exact LeO.refl _)
   | (with_reducible exact LeO.none _)
   | (with_reducible refine LeO.ite ?_ ?_)
   | (with_reducible refine LeO.bind ?_ (fun _ => ?_))
   | exact ih0 _ _ _ _ _ _
   | exact LeO.none _
   | refine LeO.ite ?_ ?_
   | refine LeO.bind ?_ (fun _ => ?_)
theorem impl_Moments_apply.mono : ∀ a0 a1 a2 k, LeO (impl_Moments_apply.f k a0 a1 a2) (impl_Moments_apply.f (k + 1) a0 a1 a2) := by
 intro a0 a1 a2 k
 have ih0 := impl_Moments_apply.mono_l k
 unfold impl_Moments_apply.f
 repeat' first
   | (with_reducible exact ih0 _ _ _ _ _ _)
   | (with_reducible exact LeO.refl _)
   | (with_reducible exact LeO.none _)
   | (with_reducible refine LeO.ite ?_ ?_)
   | (with_reducible refine LeO.bind ?_ (fun _ => ?_))
   | exact ih0 _ _ _ _ _ _
   | exact LeO.none _
   | refine LeO.ite ?_ ?_
   | refine LeO.bind ?_ (fun _ => ?_)
def impl_Moments_apply.T5 : Bool × List (List Nat × List Nat) := (true, [([], []), ([0], [0]), ([], []), ([], []), ([], []), ([4], [4]), ([], []), ([5, 6], [5, 6]), ([7], [7]), ([3, 8], [3, 8]), ([2, 9], [2, 9]), ([1, 10, 1], [1, 10]), ([11, 11, 0, 1, 2, 3, 4, 5, 6, 7, 8, 9, 10, 11], [2, 11])])
def impl_Moments_apply.B5 : List Nat := [0, 1, 0, 0, 0, 16, 0, 112, 240, 504, 1020, 2047, 4095]
theorem impl_Moments_apply.tab5 : rtab .any (opsOf Try.f102 5) = impl_Moments_apply.T5 := by kernel_rfl
theorem impl_Moments_apply.bits5 : waitsOk impl_Moments_apply.T5.2 impl_Moments_apply.B5 = true := by kernel_rfl
set_option maxHeartbeats 8000000 in
set_option maxRecDepth 100000 in
theorem impl_Moments_apply.calls (k : Nat) (a0_0 : Int) (A0_1 : Option Addr) (c0_1 : Nat) (l0_1 : List Int) (A1 : Option Addr) (c1 : Nat) (l1 : List Int) (r : Int) (w : World) (hr0_1 : Kd.C (Kd.int .i64) w A0_1 l0_1.length l0_1) (hc0_1 : l0_1.length ≤ c0_1) (hr1 : Kd.C (Kd.int .i64) w A1 l1.length l1) (hc1 : l1.length ≤ c1) (h : impl_Moments_apply.f k a0_0 l0_1 l1 = some r) :
  Calls Try.prog 102 #[.agg #[.int .i64 a0_0, .slice A0_1 l0_1.length c0_1], .slice A1 l1.length c1] w fun e w' => e = .returned (.int .i64 r) ∧ Below w.heap.size w w' := by
 have hu31 := Try.underlying31
 have HR0_1 := zA hr0_1
 have HC0_1 := zA hc0_1
 clear hr0_1 hc0_1
 have HR1 := zA hr1
 have HC1 := zA hc1
 clear hr1 hc1
 have HB := zA (Below.refl w.heap.size w)
 have H : (impl_Moments_apply.l0 k 0 l1 (l1.length : Int) 0 a0_0 l0_1) = some r := h
 clear h
 have H' := zA H
 clear H
 go_enter Try.func102, Try.ntmps102
 go_wp2_with (first | ((with_reducible refine gate_dst (N := 2) rfl ?_); refine box_event ?hg (N := 2) ?hd (cs := #[.int .i64 a0_0, .slice A0_1 l0_1.length c0_1]) (t := 31) ?hr ?_; (case hd => rfl); (case hg => rfl); (case hr => first | (go_simp; done) | (go_simp; rfl)); intro gb206 hg w3 hbox hb; have n0_ := xH HB hb; have n1_ := zA (hbox); have n2_ := zA ((by rw [hg]; exact (below_size (uH HB.out)) : w.heap.size ≤ gb206)); have n3_ := zA ((by rw [hg]; exact (below_size (uH HB.out)) : w.heap.size ≤ gb206)); clear HB; have HB := n0_; have BK206 := n1_; have GW206 := n2_; have GE206 := n3_; have := geI GE206; clear n0_ n1_ n2_ n3_ hb hbox hg))
 go_loopg [5, 10] k (fun kq v5 v10 w' => ∃ (x5_1 : Int) (x10_1 : Int), v5 = .int .i64 x5_1 ∧ v10 = .int .i64 x10_1 ∧ Aside0 (impl_Moments_apply.l0 kq x5_1 l1 (l1.length : Int) x10_1 a0_0 l0_1 = some r) ∧ Aside0 (kq ≤ k) ∧ Aside0 (w'.heap[gb206]? = some (.cells #[.int .i64 a0_0, (.slice A0_1 l0_1.length c0_1)] 31 (0, 0))) ∧ Aside0 (Below w.heap.size w w'))
 case atStart => exact ⟨(0), (0), (by first | rfl | (simp; done) | (simp [*]; done)), (by first | rfl | (simp; done) | (simp [*]; done)), H', ⟨Nat.le_refl _⟩, ⟨uB BK206.out⟩, ⟨uH HB.out⟩⟩
 case round =>
  clear H'
  try clear c1
  try clear p2
  obtain ⟨x5_1, x10_1, rfl, rfl, HA, HK1, BK206, HB⟩ := hrel
  cases gk with
  | zero => exact absurd HA.out (by simp [impl_Moments_apply.l0])
  | succ k1 =>
   have H := HA.out
   clear HA
   simp only [impl_Moments_apply.l0] at H
   by_cases c4 : x10_1 < (l1.length : Int)
   ·rw [if_pos c4] at H
    have c4b0 : decide (x10_1 < (l1.length : Int)) = true := decide_eq_true c4
    clear c4
    by_cases c5 : 0 ≤ x10_1
    ·rw [if_pos c5] at H
     have c5b0 : decide (0 ≤ x10_1) = true := decide_eq_true c5
     clear c5
     by_cases c6 : x10_1 < (l1.length : Int)
     ·rw [if_pos c6] at H
      have c6b0 : decide (x10_1 < (l1.length : Int)) = true := decide_eq_true c6
      clear c6
      replace H := Option.bind_eq_some_iff.mp H
      obtain ⟨t208, A70, H⟩ := H
      replace H : (if x10_1 < (l0_1.length : Int) then ((impl_field_mod.f t208 (wrap64 (x5_1 + (wrap64 ((rd l1 x10_1) * (rd l0_1 x10_1)))))).bind fun t210 => (impl_Moments_apply.l0 k1 t210 l1 (l1.length : Int) (wrap64 (x10_1 + 1)) a0_0 l0_1)) else (none)) = some r := H
      have A7 := zA A70
      clear A70
      by_cases c8 : x10_1 < (l0_1.length : Int)
      ·rw [if_pos c8] at H
       have c8b0 : decide (x10_1 < (l0_1.length : Int)) = true := decide_eq_true c8
       clear c8
       replace H := Option.bind_eq_some_iff.mp H
       obtain ⟨t210, A90, H⟩ := H
       replace H : (impl_Moments_apply.l0 k1 t210 l1 (l1.length : Int) (wrap64 (x10_1 + 1)) a0_0 l0_1) = some r := H
       have A9 := zA A90
       clear A90
       have H' := zA H
       clear H
       have p207 : 0 ≤ (x10_1 : Int) := of_decide_eq_true (by first | (with_reducible assumption) | assumption)
       have q207 : x10_1 < (l1.length : Int) := of_decide_eq_true (by first | (with_reducible assumption) | assumption)
       obtain ⟨ad207, e207, hx207_0⟩ := Kd.at_int HR1.out x10_1 p207 q207
       cases e207
       replace hx207_0 := (HB.out.cell (World.block_lt_of_cell? w _ hx207_0)).trans hx207_0
       replace p207 := eq_true p207
       replace q207 := eq_true q207
       try go_wp2
       have n0_ := zA (blk_drew BK206.out)
       have n1_ := zA (below_drew1 HB.out)
       clear BK206 HB
       have BK206 := n0_; have HB := n1_
       clear n0_ n1_
       have p209 : 0 ≤ (x10_1 : Int) := of_decide_eq_true (by first | (with_reducible assumption) | assumption)
       have q209 : x10_1 < (l0_1.length : Int) := of_decide_eq_true (by first | (with_reducible assumption) | assumption)
       obtain ⟨ad209, e209, hx209_0⟩ := Kd.at_int HR0_1.out x10_1 p209 q209
       have hw209_0 := hx209_0
       cases e209
       replace hx209_0 := (HB.out.cell (World.block_lt_of_cell? w _ hx209_0)).trans hx209_0
       replace p209 := eq_true p209
       replace q209 := eq_true q209
       refine start_ (n := 13) (S := fun w' => w'.cell? ⟨gb206, 0, none⟩ = some (.int .i64 a0_0) ∧ w'.cell? ⟨gb206, 1, none⟩ = some (.slice (some ad209) l0_1.length c0_1) ∧ w'.cell? (ad209.add (x10_1).toNat) = some (.int .i64 (rd l0_1 x10_1))) (ds := []) #[false, false, false, false, false, false, false, false, false, false, false, false, false] (by kernel_rfl) rfl rfl ⟨(blk_cell BK206.out 0).trans rfl, (blk_cell BK206.out 1).trans rfl, ((HB.out.cell (World.block_lt_of_cell? w _ hw209_0)).trans hw209_0)⟩ (fun hHeld => ?_); refine with_tabW impl_Moments_apply.tab5 impl_Moments_apply.bits5 (fun HT_ HW_ => ?_)
       generalize wr.drew = w10 at BK206 HB hx209_0 hHeld ⊢
       refine pu_ 2 17 (bl 13 4) HT_ ?_
       refine pu_ 3 18 (bl 13 12) HT_ ?_
       refine pu_ 4 19 (bl 13 28) HT_ ?_
       refine pu_ 6 21 (bl 13 92) HT_ ?_
       refine ta_ 0 15 (bl 13 93) HT_ HW_ hHeld ?_
       refine ta_ 5 20 (bl 13 125) HT_ HW_ hHeld ?_
       refine pu_ 7 22 (bl 13 253) HT_ ?_
       refine ta_ 8 23 (bl 13 509) HT_ HW_ hHeld ?_
       refine pu_ 9 24 (bl 13 1021) HT_ ?_
       refine pu_ 10 25 (bl 13 2045) HT_ ?_
       refine on_ 1 (some 16) (bl 13 2047) HT_ (fun K hK => ?_)
       refine goes_ Try.func100 (by kernel_rfl) rfl #[.agg #[.int .i64 a0_0, .slice (some ad209) l0_1.length c0_1]] (by rfl) rfl rfl (by (try simp only [la, lb, lc]); first | done | rfl | (simp only [ld, le]; rfl)) ?_
       with_reducible refine (impl_Moments_field.calls a0_0 _ _ l0_1 t208 _ ?side1 ?side2 A7.out).mono ?_
       (case side1 => exact uC ((Kd.C_below HR0_1.out HB.out)))
       (case side2 => exact HC0_1.out)
       rintro e w11 ⟨rfl, hb⟩
       refine ⟨_, rfl, ?_⟩
       have n0_ := xB BK206 hb
       have n1_ := xH HB hb
       clear BK206 HB
       have BK206 := n0_; have HB := n1_
       clear n0_ n1_
       (try clear hb); (try clear hb2); (try clear hk); (try clear hi)
       refine hK.out _ _ ⟨(blk_cell BK206.out 0).trans rfl, (blk_cell BK206.out 1).trans rfl, ((HB.out.cell (World.block_lt_of_cell? w _ hw209_0)).trans hw209_0)⟩ (fun hHeld => ?_)
       clear hK K
       refine no_ 16 ?_
       refine on_ 11 (some 26) (bl 13 4095) HT_ (fun K hK => ?_)
       refine goes_ Try.func88 (by kernel_rfl) rfl #[.int .i64 t208, .int .i64 (wrap64 (x5_1 + (wrap64 ((rd l1 x10_1) * (rd l0_1 x10_1)))))] (by rfl) rfl rfl (by (try simp only [la, lb, lc]); first | done | rfl | (simp only [ld, le]; rfl)) ?_
       with_reducible refine (impl_field_mod.calls t208 (wrap64 (x5_1 + (wrap64 ((rd l1 x10_1) * (rd l0_1 x10_1))))) t210 _ A9.out).mono ?_
       rintro e w' ⟨rfl, ⟨nd, rfl⟩⟩
       refine ⟨_, rfl, ?_⟩
       refine hK.out _ _ ⟨(blk_cell BK206.out 0).trans rfl, (blk_cell BK206.out 1).trans rfl, ((HB.out.cell (World.block_lt_of_cell? w _ hw209_0)).trans hw209_0)⟩ (fun hHeld => ?_)
       clear hK K
       refine no_ 26 ?_
       refine pu_ 12 5 (bl 13 8191) HT_ ?_
       refine done_ (done_of HT_.out (by kernel_rfl)) ?_
       try go_wp2
       go_roundg k1
       case measure => have := HK1.out; omega
       case rel => exact ⟨(t210), (wrap64 (x10_1 + 1)), (by first | rfl | (simp; done) | (simp [*]; done)), (by first | rfl | (simp; done) | (simp [*]; done)), H', ⟨by have := HK1.out; omega⟩, ⟨uB BK206.out⟩, ⟨uH HB.out⟩⟩
      ·rw [if_neg c8] at H
       exact absurd H (by simp)
     ·rw [if_neg c6] at H
      exact absurd H (by simp)
    ·rw [if_neg c5] at H
     exact absurd H (by simp)
   ·rw [if_neg c4] at H
    have c4b0 : decide (x10_1 < (l1.length : Int)) = false := decide_eq_false c4
    clear c4
    obtain rfl := Option.some.inj H
    go_wp2
    go_ret
    exact ⟨by first | rfl | (simp [errW_none, errW_some] <;> rfl) | (simp [*, errW_none, errW_some] <;> rfl), uH HB.out⟩

end Go.Proofs.Ytokkabgkjhpecaa.Pr
