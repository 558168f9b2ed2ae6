/- Printed by a program of this session out of the translation: what these functions of the program compute, under the conditions that each theorem names. -/
import Derived.Test.YtjdannndpfkadaaKStepsOf1
import Derived.Test.YtjdannndpfkadaaKStepsOf4
import Derived.Test.YtjdannndpfkadaaKStepsOf5
import Derived.Test.YtjdannndpfkadaaKStepsOf3
namespace Go.Proofs.Ytjdannndpfkadaa.Pr
open Go.RowKit Go.Proofs.YtjdannndpfkadaaW.PrintWords Go.Proofs.YtjdannndpfkadaaW.PrintLast Go.Proofs.YtjdannndpfkadaaW.PrintMore
attribute [local go_sem] max2_int min2_int max_two min_two max_three min_three max_four min_four   -- for this text's walks alone
set_option linter.unusedVariables false
set_option linter.unusedSimpArgs false

/-! ### impl_StepsOf: function 19 -/
mutual
def impl_StepsOf.l0 : Nat → Int → List Int → List Int → Option (List Int × Int)
 | 0, _, _, _ => none
 | k + 1, x5, x6, x7 => (impl_isZero.f x6).bind fun t223 => (if t223 = true then (some (x7, 0)) else (if 0 < (x6.length : Int) then (if (rd x6 0) = 0 then (some (([] : List Int), 5)) else (if x7.length < 17592186044416 then ((impl_length_int64.f x6).bind fun t231 => ((impl_field_series.f k x5 (([rd x6 0] : List Int)) x6 t231).bind fun t232 => (if 1 ≤ (t232.length : Int) then ((some (t232.drop (1 : Int).toNat : List Int)).bind fun y235 => (impl_StepsOf.l1 k x5 (x7 ++ [rd x6 0]) y235 (y235.length : Int) 0)) else (none)))) else (none))) else (none)))
def impl_StepsOf.l1 : Nat → Int → List Int → List Int → Int → Int → Option (List Int × Int)
 | 0, _, _, _, _, _ => none
 | k + 1, x5, x7, x9, x42, x43 => if x43 < x42 then (if 0 ≤ x43 then (if x43 < (x9.length : Int) then ((impl_field_mod.f x5 (wrap64 (-(rd x9 x43)))).bind fun t239 => (impl_StepsOf.l1 k x5 x7 (x9.set (x43 : Int).toNat t239) x42 (wrap64 (x43 + 1)))) else (none)) else (none)) else (impl_StepsOf.l0 k x5 x9 x7)
end
def impl_StepsOf.f (k : Nat) (a0_0 : Int) (l0_1 : List Int) : Option (List Int × Int) := (impl_momentsCode.f k a0_0 l0_1 (impl_always.f.getD false) ([] : List (List Int))).bind fun t221 => (if t221 = 0 then ((impl_Moments_field.f a0_0 l0_1).bind fun t222 => (impl_StepsOf.l0 k t222 l0_1 ([] : List Int))) else (some (([] : List Int), t221)))
theorem impl_StepsOf.mono_l : ∀ k, (∀ y0 y1 y2, LeO (impl_StepsOf.l0 k y0 y1 y2) (impl_StepsOf.l0 (k + 1) y0 y1 y2)) ∧ (∀ y0 y1 y2 y3 y4, LeO (impl_StepsOf.l1 k y0 y1 y2 y3 y4) (impl_StepsOf.l1 (k + 1) y0 y1 y2 y3 y4))
 | 0 => ⟨fun _ _ _ r h => by simp [impl_StepsOf.l0] at h, fun _ _ _ _ _ r h => by simp [impl_StepsOf.l1] at h⟩
 | k + 1 => by
  obtain ⟨ih0, ih1⟩ := impl_StepsOf.mono_l k
  refine ⟨?_, ?_⟩
  ·intro y0 y1 y2
   unfold impl_StepsOf.l0
   repeat' first
   | (with_reducible exact ih0 _ _ _)
   | (with_reducible exact ih1 _ _ _ _ _)
   | (with_reducible exact impl_field_series.mono _ _ _ _ _)
   | (with_reducible exact impl_momentsCode.mono _ _ _ _ _)
   | (with_reducible exact LeO.refl _)
   | (with_reducible exact LeO.none _)
   | (with_reducible refine LeO.ite ?_ ?_)
   | (with_reducible refine LeO.bind ?_ (fun _ => ?_))
   | exact ih0 _ _ _
   | exact ih1 _ _ _ _ _
   | exact impl_field_series.mono _ _ _ _ _
   | exact impl_momentsCode.mono _ _ _ _ _
   | exact LeO.none _
   | refine LeO.ite ?_ ?_
   | refine LeO.bind ?_ (fun _ => ?_)
  ·intro y0 y1 y2 y3 y4
   unfold impl_StepsOf.l1
   repeat' first
   | (with_reducible exact ih0 _ _ _)
   | (with_reducible exact ih1 _ _ _ _ _)
   | (with_reducible exact impl_field_series.mono _ _ _ _ _)
   | (with_reducible exact impl_momentsCode.mono _ _ _ _ _)
   | (with_reducible exact LeO.refl _)
   | (with_reducible exact LeO.none _)
   | (with_reducible refine LeO.ite ?_ ?_)
   | (with_reducible refine LeO.bind ?_ (fun _ => ?_))
   | exact ih0 _ _ _
   | exact ih1 _ _ _ _ _
   | exact impl_field_series.mono _ _ _ _ _
   | exact impl_momentsCode.mono _ _ _ _ _
   | exact LeO.none _
   | refine LeO.ite ?_ ?_
   | refine LeO.bind ?_ (fun _ => ?_)
theorem impl_StepsOf.mono : ∀ a0 a1 k, LeO (impl_StepsOf.f k a0 a1) (impl_StepsOf.f (k + 1) a0 a1) := by
 intro a0 a1 k
 obtain ⟨ih0, ih1⟩ := impl_StepsOf.mono_l k
 unfold impl_StepsOf.f
 repeat' first
   | (with_reducible exact ih0 _ _ _)
   | (with_reducible exact ih1 _ _ _ _ _)
   | (with_reducible exact impl_field_series.mono _ _ _ _ _)
   | (with_reducible exact impl_momentsCode.mono _ _ _ _ _)
   | (with_reducible exact LeO.refl _)
   | (with_reducible exact LeO.none _)
   | (with_reducible refine LeO.ite ?_ ?_)
   | (with_reducible refine LeO.bind ?_ (fun _ => ?_))
   | exact ih0 _ _ _
   | exact ih1 _ _ _ _ _
   | exact impl_field_series.mono _ _ _ _ _
   | exact impl_momentsCode.mono _ _ _ _ _
   | exact LeO.none _
   | refine LeO.ite ?_ ?_
   | refine LeO.bind ?_ (fun _ => ?_)
set_option maxHeartbeats 8000000 in
set_option maxRecDepth 100000 in
theorem impl_StepsOf.calls (k : Nat) (a0_0 : Int) (P0_1_ : Nat → Prop) (A0_1 : Option Addr) (c0_1 : Nat) (l0_1 : List Int) (r1 : List Int) (r2 : Int) (w : World) (hs0_1 : Kd.V (Kd.int .i64) 2 w w.heap.size (fun k_ => P0_1_ k_) (.slice A0_1 l0_1.length c0_1) l0_1) (h : impl_StepsOf.f k a0_0 l0_1 = some (r1, r2)) :
  Calls Try.prog 19 #[.agg #[.int .i64 a0_0, .slice A0_1 l0_1.length c0_1]] w fun e w' => ∃ v0_ : Value, e = .returned (.tuple #[v0_, .int .i64 r2]) ∧ Kd.R (Kd.int .i64) 2 w' w.heap.size (fun k_ => (w.heap.size ≤ k_)) v0_ r1 ∧ Below w.heap.size w w' := by
 have hu41 := Try.underlying41
 have HO0_1 := zA (show Kd.V (Kd.int .i64) 2 w w.heap.size (fun k_ => (P0_1_ k_ ∨ w.heap.size ≤ k_)) (.slice A0_1 l0_1.length c0_1) l0_1 from Kd.V_mono hs0_1 (fun k_ hk => .inl hk))
 have HB := zA (Below.refl w.heap.size w)
 have H : ((impl_momentsCode.f k a0_0 l0_1 (impl_always.f.getD false) ([] : List (List Int))).bind fun t221 => (if t221 = 0 then ((impl_Moments_field.f a0_0 l0_1).bind fun t222 => (impl_StepsOf.l0 k t222 l0_1 ([] : List Int))) else (some (([] : List Int), t221)))) = some (r1, r2) := h
 clear h
 replace H := Option.bind_eq_some_iff.mp H
 obtain ⟨t221, A20, H⟩ := H
 replace H : (if t221 = 0 then ((impl_Moments_field.f a0_0 l0_1).bind fun t222 => (impl_StepsOf.l0 k t222 l0_1 ([] : List Int))) else (some (([] : List Int), t221))) = some (r1, r2) := H
 have A2 := zA A20
 clear A20
 by_cases c3 : t221 = 0
 ·rw [if_pos c3] at H
  have c3b0 : (t221 == 0) = true := beq_iff_eq.mpr c3
  have c3b1 : (t221 != 0) = false := bne_eq_false_iff_eq.mpr c3
  clear c3
  replace H := Option.bind_eq_some_iff.mp H
  obtain ⟨t222, A40, H⟩ := H
  replace H : (impl_StepsOf.l0 k t222 l0_1 ([] : List Int)) = some (r1, r2) := H
  have A4 := zA A40
  clear A40
  have H' := zA H
  clear H
  go_enter Try.func19, Try.ntmps19
  try go_wp2_with (first | ((with_reducible refine gate_dst (N := 1) rfl ?_); refine box_event ?hg (N := 1) ?hd (cs := #[.int .i64 a0_0, .slice A0_1 l0_1.length c0_1]) (t := 41) ?hr ?_; (case hd => rfl); (case hg => rfl); (case hr => first | (go_simp; done) | (go_simp; rfl)); intro gb220 hg w5 hbox hb; have n0_ := zA (Kd.V_below (Kd.V_elderB (by (with_reducible repeat (first | apply Kd.V_alloc | apply Kd.V_drewN | apply Kd.V_drew)); exact HO0_1.out) gb220 (Nat.le_of_eq hg.symm)) hb); have n1_ := xH HB hb; have n2_ := zA (hbox); have n3_ := zA ((by rw [hg]; exact (below_size (uH HB.out)) : w.heap.size ≤ gb220)); have n4_ := zA ((by rw [hg]; exact (below_size (uH HB.out)) : w.heap.size ≤ gb220)); clear HO0_1 HB; have HO0_1 := n0_; have HB := n1_; have BK220 := n2_; have GW220 := n3_; have GE220 := n4_; have := geI GE220; clear n0_ n1_ n2_ n3_ n4_ hb hbox hg; have hcz6_0 : w5.cell? ⟨gb220, 0, none⟩ = some (.int .i64 a0_0) := (blk_cell BK220.out 0).trans rfl; have hcz6_1 : w5.cell? ⟨gb220, 1, none⟩ = some (.slice A0_1 l0_1.length c0_1) := (blk_cell BK220.out 1).trans rfl; have hfz6_0 := blk_frozen BK220.out 0; have hfz6_1 := blk_frozen BK220.out 1) | ((with_reducible refine gate_callee (f := 45) rfl ?_); refine goesL_ (some 13) rfl rfl Try.func45 (by kernel_rfl) rfl #[.agg #[.int .i64 a0_0, .slice A0_1 l0_1.length c0_1], (.func (.func 46) #[] #[]), .slice none 0 0] rfl (by (try simp only [la, lb, lc]); first | done | rfl | (simp only [ld, le]; rfl)) ?_; (refine (impl_momentsCode.calls k a0_0 _ _ l0_1 _ (impl_always.f.getD false) _ _ ([] : List (List Int)) t221 _ ?side1 ?side2 ?side3 ?side4 ?side5 A2.out).mono ?_); (case side1 => exact uC ((Kd.V_reads' HO0_1.out).2.2)); (case side2 => exact (Kd.V_reads' HO0_1.out).2.1); (case side3 => exact FnB.of Try.func46 (by kernel_rfl) rfl (fun W_ hW_ => calls_of_args (args' := #[]) (by simp) ((impl_always.calls  _ W_  rfl).mono fun e_ W2_ h_ => ⟨h_.1, h_.2.below⟩))); (case side4 => exact Kd.C_nil _ _); (case side5 => exact Nat.le_refl _); rintro e w7 ⟨rfl, hb⟩; refine ⟨_, rfl, ?_⟩; have n0_ := zA (Kd.V_below (by (with_reducible repeat (first | apply Kd.V_alloc | apply Kd.V_drewN | apply Kd.V_drew)); exact HO0_1.out) hb); have n1_ := xB BK220 hb; have n2_ := xH HB hb; clear HO0_1 BK220 HB; have HO0_1 := n0_; have BK220 := n1_; have HB := n2_; clear n0_ n1_ n2_; (try clear hb); (try clear hb2); (try clear hk); (try clear hi)))
  have n0_ := zA (Kd.V_drew HO0_1.out)
  have n1_ := zA (blk_drew BK220.out)
  have n2_ := zA (below_drew1 HB.out)
  clear HO0_1 BK220 HB
  have HO0_1 := n0_; have BK220 := n1_; have HB := n2_
  clear n0_ n1_ n2_
  refine start_ (n := 6) (S := fun w' => w'.cell? ⟨gb220, 0, none⟩ = some (.int .i64 a0_0) ∧ w'.cell? ⟨gb220, 1, none⟩ = some (.slice A0_1 l0_1.length c0_1)) (ds := []) #[false, false, false, false, false, false] (by kernel_rfl) rfl rfl ⟨(blk_cell BK220.out 0).trans rfl, (blk_cell BK220.out 1).trans rfl⟩ (fun hHeld => ?_)
  generalize w7.drew = w8 at HO0_1 BK220 HB hHeld ⊢
  refine pure_ (i := 2) (N := some 19) (v := ?_) (a' := ?_) (bl 6 4) rfl rfl (by kernel_rfl) (fun _ _ _ h => h) (Or.inl ⟨by rfl, ?_⟩) ?_ ?_
  rotate_left
  ·intro w'
   go_simp
   with_reducible rfl
  rotate_left
  ·simp only [Act.put, ls, lz, ln, i64_w, i32_w]
   rfl
  refine take_ (i := 0) (N := some 17) (v := ?_) (a' := ?_) (bl 6 5) rfl rfl (by kernel_rfl) (fun _ _ _ h => h) (Or.inl ⟨by rfl, ?_⟩) hHeld ?_ ?_
  rotate_left
  ·rintro w' ⟨s0, s1⟩
   go_simp
   with_reducible rfl
  rotate_left
  ·simp only [Act.put, ls, lz, ln, i64_w, i32_w]
   rfl
  refine take_ (i := 3) (N := some 20) (v := ?_) (a' := ?_) (bl 6 13) rfl rfl (by kernel_rfl) (fun _ _ _ h => h) (Or.inl ⟨by rfl, ?_⟩) hHeld ?_ ?_
  rotate_left
  ·rintro w' ⟨s0, s1⟩
   go_simp
   with_reducible rfl
  rotate_left
  ·simp only [Act.put, ls, lz, ln, i64_w, i32_w]
   rfl
  refine one_ (i := 1) (N := some 18) (bl 6 15) rfl rfl (by kernel_rfl) (by decide) (fun K hK => ?_)
  refine goes_ Try.func47 (by kernel_rfl) rfl #[.agg #[.int .i64 a0_0, .slice A0_1 l0_1.length c0_1]] (by rfl) rfl rfl (by (try simp only [la, lb, lc]); first | done | rfl | (simp only [ld, le]; rfl)) ?_
  with_reducible refine (impl_Moments_field.calls a0_0 _ _ l0_1 t222 _ ?side1 ?side2 A4.out).mono ?_
  (case side1 => exact uC ((Kd.V_reads' HO0_1.out).2.2))
  (case side2 => exact (Kd.V_reads' HO0_1.out).2.1)
  rintro e w9 ⟨rfl, hb⟩
  refine ⟨_, rfl, ?_⟩
  have n0_ := zA (Kd.V_below (by (with_reducible repeat (first | apply Kd.V_alloc | apply Kd.V_drewN | apply Kd.V_drew)); exact HO0_1.out) hb)
  have n1_ := xB BK220 hb
  have n2_ := xH HB hb
  clear HO0_1 BK220 HB
  have HO0_1 := n0_; have BK220 := n1_; have HB := n2_
  clear n0_ n1_ n2_
  (try clear hb); (try clear hb2); (try clear hk); (try clear hi)
  refine hK.out _ _ ⟨(blk_cell BK220.out 0).trans rfl, (blk_cell BK220.out 1).trans rfl⟩ (fun hHeld => ?_)
  clear hK K
  refine no_ 18 ?_
  refine pure_ (i := 4) (N := some 5) (v := ?_) (a' := ?_) (bl 6 31) rfl rfl (by kernel_rfl) (fun _ _ _ h => h) (Or.inl ⟨by rfl, ?_⟩) ?_ ?_
  rotate_left
  ·intro w'
   go_simp
   with_reducible rfl
  rotate_left
  ·simp only [Act.put, ls, lz, ln, i64_w, i32_w]
   rfl
  refine pure_ (i := 5) (N := some 6) (v := ?_) (a' := ?_) (bl 6 63) rfl rfl (by kernel_rfl) (fun _ _ _ h => h) (Or.inl ⟨by rfl, ?_⟩) ?_ ?_
  rotate_left
  ·intro w'
   go_simp
   with_reducible rfl
  rotate_left
  ·simp only [Act.put, ls, lz, ln, i64_w, i32_w]
   rfl
  refine done_ (by kernel_rfl) ?_
  try go_wp2
  go_loopg [6, 7] k (fun kq v6 v7 w' => ∃ (x6_1 : List Int) (x7_1 : List Int) (x221001_1 : List Int) (u221001 : Value), Aside0 (impl_StepsOf.l0 kq t222 x6_1 x7_1 = some (r1, r2)) ∧ Aside0 (kq ≤ k) ∧ Aside0 (Kd.V (Kd.int .i64) 2 w' w.heap.size (fun k_ => (P0_1_ k_ ∨ w.heap.size ≤ k_) ∧ some k_ ≠ (v7 : Value).ownBlock ∧ k_ ≠ gb220) v6 x6_1) ∧ Aside0 (Kd.R (Kd.int .i64) 2 w' w.heap.size (fun k_ => (w.heap.size ≤ k_)) v7 x7_1) ∧ Aside0 (Kd.V (Kd.int .i64) 2 w' w.heap.size (fun k_ => (P0_1_ k_ ∨ w.heap.size ≤ k_) ∧ some k_ ≠ (v7 : Value).ownBlock ∧ k_ ≠ gb220) u221001 x221001_1) ∧ Aside0 (w'.heap[gb220]? = some (.cells #[.int .i64 a0_0, u221001] 41 (0, 0))) ∧ Aside0 (Below w.heap.size w w'))
  case atStart => exact ⟨(l0_1), (([] : List Int)), (l0_1), (.slice A0_1 l0_1.length c0_1), H', ⟨Nat.le_refl _⟩, ⟨by (with_reducible repeat (first | apply Kd.V_alloc | apply Kd.V_drewN | apply Kd.V_drew)); exact Kd.V_mono HO0_1.out (fun _ hk => ⟨hk.1, ⟨(by simp [Value.ownBlock]), hk.2⟩⟩)⟩, ⟨by first | exact Kd.R_nil _ _ _ _ _ | exact Kd.N_nil _ _ _ _ _ | exact Kd.V_nil _ _ _ _ _ | exact Kd.Q_nil _ _ _ _ _ | exact Kd.S_nil _ _ _ _ _⟩, ⟨by (with_reducible repeat (first | apply Kd.V_alloc | apply Kd.V_drewN | apply Kd.V_drew)); exact Kd.V_mono HO0_1.out (fun _ hk => ⟨hk.1, ⟨(by simp [Value.ownBlock]), hk.2⟩⟩)⟩, ⟨uB BK220.out⟩, ⟨uH HB.out⟩⟩
  case round =>
   clear H'
   try clear c1
   try clear p2
   try clear c3
   try clear c3b0
   try clear c3b1
   try clear c4
   try clear hcz6_0
   try clear hcz6_1
   try clear hfz6_0
   try clear hfz6_1
   obtain ⟨x6_1, x7_1, x221001_1, u221001, HA, HK1, HO_6, HO_7, HO_221001, BK220, HB⟩ := hrel
   cases gk with
   | zero => exact absurd HA.out (by simp [impl_StepsOf.l0])
   | succ k1 =>
    have H := HA.out
    clear HA
    simp only [impl_StepsOf.l0] at H
    replace H := Option.bind_eq_some_iff.mp H
    obtain ⟨t223, A100, H⟩ := H
    replace H : (if t223 = true then (some (x7_1, 0)) else (if 0 < (x6_1.length : Int) then (if (rd x6_1 0) = 0 then (some (([] : List Int), 5)) else (if x7_1.length < 17592186044416 then ((impl_length_int64.f x6_1).bind fun t231 => ((impl_field_series.f k1 t222 (([rd x6_1 0] : List Int)) x6_1 t231).bind fun t232 => (if 1 ≤ (t232.length : Int) then ((some (t232.drop (1 : Int).toNat : List Int)).bind fun y235 => (impl_StepsOf.l1 k1 t222 (x7_1 ++ [rd x6_1 0]) y235 (y235.length : Int) 0)) else (none)))) else (none))) else (none))) = some (r1, r2) := H
    have A10 := zA A100
    clear A100
    by_cases c11 : t223 = true
    ·subst c11
     have H1 : (some (x7_1, 0)) = some (r1, r2) := by rw [if_pos rfl] at H; exact H
     clear H
     have H := H1
     clear H1
     simp only [Option.some.injEq, Prod.mk.injEq] at H
     obtain ⟨rfl, rfl⟩ := H
     obtain ⟨Ao12, co12, eo12⟩ := Kd.V_slice HO_6.out
     subst eo12
     go_wp2_with (first | ((with_reducible refine gate_callee (f := 48) rfl ?_); refine goesL_ (some 22) rfl rfl Try.func48 (by kernel_rfl) rfl #[.slice Ao12 x6_1.length co12] rfl (by (try simp only [la, lb, lc]); first | done | rfl | (simp only [ld, le]; rfl)) ?_; (with_reducible refine (impl_isZero.calls _ _ x6_1 true _ ?side1 ?side2 A10.out).mono ?_); (case side1 => exact uC ((Kd.V_reads' HO_6.out).2.2)); (case side2 => exact (Kd.V_reads' HO_6.out).2.1); rintro e w13 ⟨rfl, hb⟩; refine ⟨_, rfl, ?_⟩; have n0_ := zA (Kd.V_below (by (with_reducible repeat (first | apply Kd.V_alloc | apply Kd.V_drewN | apply Kd.V_drew)); exact HO_6.out) hb); have n1_ := xR HO_7 hb; have n2_ := zA (Kd.V_below (by (with_reducible repeat (first | apply Kd.V_alloc | apply Kd.V_drewN | apply Kd.V_drew)); exact HO_221001.out) hb); have n3_ := xB BK220 hb; have n4_ := xH HB hb; clear HO_6 HO_7 HO_221001 BK220 HB; have HO_6 := n0_; have HO_7 := n1_; have HO_221001 := n2_; have BK220 := n3_; have HB := n4_; clear n0_ n1_ n2_ n3_ n4_; (try clear hb); (try clear hb2); (try clear hk); (try clear hi)))
     go_ret2
     exact ⟨_, by first | rfl | (simp [errW_none, errW_some] <;> rfl) | (simp [*, errW_none, errW_some] <;> rfl), uR HO_7.out, uH HB.out⟩
    ·replace c11 := Bool.eq_false_iff.mpr c11
     subst c11
     have H1 : (if 0 < (x6_1.length : Int) then (if (rd x6_1 0) = 0 then (some (([] : List Int), 5)) else (if x7_1.length < 17592186044416 then ((impl_length_int64.f x6_1).bind fun t231 => ((impl_field_series.f k1 t222 (([rd x6_1 0] : List Int)) x6_1 t231).bind fun t232 => (if 1 ≤ (t232.length : Int) then ((some (t232.drop (1 : Int).toNat : List Int)).bind fun y235 => (impl_StepsOf.l1 k1 t222 (x7_1 ++ [rd x6_1 0]) y235 (y235.length : Int) 0)) else (none)))) else (none))) else (none)) = some (r1, r2) := by rw [if_neg (show ¬ (false = true) by decide)] at H; exact H
     clear H
     have H := H1
     clear H1
     by_cases c14 : 0 < (x6_1.length : Int)
     ·rw [if_pos c14] at H
      have c14b0 : decide (0 < (x6_1.length : Int)) = true := decide_eq_true c14
      have c14b1 : decide (0 < x6_1.length) = true := decide_eq_true (by omega)
      clear c14
      by_cases c15 : (rd x6_1 0) = 0
      ·rw [if_pos c15] at H
       have c15b0 : ((rd x6_1 0) == 0) = true := beq_iff_eq.mpr c15
       have c15b1 : ((rd x6_1 0) != 0) = false := bne_eq_false_iff_eq.mpr c15
       clear c15
       simp only [Option.some.injEq, Prod.mk.injEq] at H
       obtain ⟨rfl, rfl⟩ := H
       obtain ⟨Ao16, co16, eo16⟩ := Kd.V_slice HO_6.out
       subst eo16
       go_wp2_with (first | ((with_reducible refine gate_callee (f := 48) rfl ?_); refine goesL_ (some 22) rfl rfl Try.func48 (by kernel_rfl) rfl #[.slice Ao16 x6_1.length co16] rfl (by (try simp only [la, lb, lc]); first | done | rfl | (simp only [ld, le]; rfl)) ?_; (with_reducible refine (impl_isZero.calls _ _ x6_1 false _ ?side1 ?side2 A10.out).mono ?_); (case side1 => exact uC ((Kd.V_reads' HO_6.out).2.2)); (case side2 => exact (Kd.V_reads' HO_6.out).2.1); rintro e w17 ⟨rfl, hb⟩; refine ⟨_, rfl, ?_⟩; have n0_ := zA (Kd.V_below (by (with_reducible repeat (first | apply Kd.V_alloc | apply Kd.V_drewN | apply Kd.V_drew)); exact HO_6.out) hb); have n1_ := xR HO_7 hb; have n2_ := zA (Kd.V_below (by (with_reducible repeat (first | apply Kd.V_alloc | apply Kd.V_drewN | apply Kd.V_drew)); exact HO_221001.out) hb); have n3_ := xB BK220 hb; have n4_ := xH HB hb; clear HO_6 HO_7 HO_221001 BK220 HB; have HO_6 := n0_; have HO_7 := n1_; have HO_221001 := n2_; have BK220 := n3_; have HB := n4_; clear n0_ n1_ n2_ n3_ n4_; (try clear hb); (try clear hb2); (try clear hk); (try clear hi); have p224 : 0 ≤ (0 : Int) := (by omega); have q224 : 0 < (x6_1.length : Int) := of_decide_eq_true (by first | (with_reducible assumption) | assumption); obtain ⟨ad224, e224, hx224_0⟩ := Kd.at_int (Kd.V_reads' HO_6.out).2.2 0 p224 q224; cases e224; have qi224 : (0 < x6_1.length) = True := eq_true (by omega); (try rw [show ((0 : Int)).toNat = 0 from rfl] at hx224_0); (try rw [Addr.add_zero'] at hx224_0); replace p224 := eq_true p224; replace q224 := eq_true q224))
       go_ret2
       exact ⟨_, by first | rfl | (simp [errW_none, errW_some] <;> rfl) | (simp [*, errW_none, errW_some] <;> rfl), by first | exact Kd.R_nil _ _ _ _ _ | exact Kd.N_nil _ _ _ _ _ | exact Kd.V_nil _ _ _ _ _ | exact Kd.Q_nil _ _ _ _ _ | exact Kd.S_nil _ _ _ _ _, uH HB.out⟩
      ·rw [if_neg c15] at H
       have c15b0 : ((rd x6_1 0) == 0) = false := beq_eq_false_iff_ne.mpr c15
       have c15b1 : ((rd x6_1 0) != 0) = true := bne_iff_ne.mpr c15
       by_cases c18 : x7_1.length < 17592186044416
       ·rw [if_pos c18] at H
        have LMc18 := zA c18
        clear c18
        obtain ⟨y225, hy225⟩ : ∃ y_ : List Int, y_ = (x7_1 ++ [rd x6_1 0]) := ⟨_, rfl⟩
        replace H : ((impl_length_int64.f x6_1).bind fun t231 => ((impl_field_series.f k1 t222 (([rd x6_1 0] : List Int)) x6_1 t231).bind fun t232 => (if 1 ≤ (t232.length : Int) then ((some (t232.drop (1 : Int).toNat : List Int)).bind fun y235 => (impl_StepsOf.l1 k1 t222 y225 y235 (y235.length : Int) 0)) else (none)))) = some (r1, r2) := by first | (rw [hy225]; with_reducible exact H) | (have H2_ := (Option.bind_some _ _).symm.trans H; rw [hy225]; with_reducible exact H2_) | (have H2_ := (Option.bind_some _ _).symm.trans H; with_reducible exact H2_) | with_reducible exact H | (rw [hy225]; exact H) | exact H
        have Ny225 := zA hy225
        clear hy225
        obtain ⟨y228, hy228⟩ : ∃ y_ : List Int, y_ = (([rd x6_1 0] : List Int)) := ⟨_, rfl⟩
        replace H : ((impl_length_int64.f x6_1).bind fun t231 => ((impl_field_series.f k1 t222 y228 x6_1 t231).bind fun t232 => (if 1 ≤ (t232.length : Int) then ((some (t232.drop (1 : Int).toNat : List Int)).bind fun y235 => (impl_StepsOf.l1 k1 t222 y225 y235 (y235.length : Int) 0)) else (none)))) = some (r1, r2) := by first | (rw [hy228]; with_reducible exact H) | (have H2_ := (Option.bind_some _ _).symm.trans H; rw [hy228]; with_reducible exact H2_) | (have H2_ := (Option.bind_some _ _).symm.trans H; with_reducible exact H2_) | with_reducible exact H | (rw [hy228]; exact H) | exact H
        have Ny228 := zA hy228
        clear hy228
        replace H := Option.bind_eq_some_iff.mp H
        obtain ⟨t231, A190, H⟩ := H
        replace H : ((impl_field_series.f k1 t222 y228 x6_1 t231).bind fun t232 => (if 1 ≤ (t232.length : Int) then ((some (t232.drop (1 : Int).toNat : List Int)).bind fun y235 => (impl_StepsOf.l1 k1 t222 y225 y235 (y235.length : Int) 0)) else (none))) = some (r1, r2) := H
        have A19 := zA A190
        clear A190
        replace H := Option.bind_eq_some_iff.mp H
        obtain ⟨t232, A200, H⟩ := H
        replace H : (if 1 ≤ (t232.length : Int) then ((some (t232.drop (1 : Int).toNat : List Int)).bind fun y235 => (impl_StepsOf.l1 k1 t222 y225 y235 (y235.length : Int) 0)) else (none)) = some (r1, r2) := H
        have A20 := zA A200
        clear A200
        by_cases c21 : 1 ≤ (t232.length : Int)
        ·rw [if_pos c21] at H
         have c21b0 := eq_true c21
         have c21b1 : decide (1 ≤ (t232.length : Int)) = true := decide_eq_true c21
         clear c21
         obtain ⟨y235, hy235⟩ : ∃ y_ : List Int, y_ = (t232.drop (1 : Int).toNat) := ⟨_, rfl⟩
         replace H : (impl_StepsOf.l1 k1 t222 y225 y235 (y235.length : Int) 0) = some (r1, r2) := by first | (rw [hy235]; with_reducible exact H) | (have H2_ := (Option.bind_some _ _).symm.trans H; rw [hy235]; with_reducible exact H2_) | (have H2_ := (Option.bind_some _ _).symm.trans H; with_reducible exact H2_) | with_reducible exact H | (rw [hy235]; exact H) | exact H
         have Ny235 := zA hy235
         clear hy235
         have H' := zA H
         clear H
         obtain ⟨Ao22, co22, eo22⟩ := Kd.V_slice HO_6.out
         subst eo22
         go_wp2_with (first | ((with_reducible refine gate_callee (f := 48) rfl ?_); refine goesL_ (some 22) rfl rfl Try.func48 (by kernel_rfl) rfl #[.slice Ao22 x6_1.length co22] rfl (by (try simp only [la, lb, lc]); first | done | rfl | (simp only [ld, le]; rfl)) ?_; (with_reducible refine (impl_isZero.calls _ _ x6_1 false _ ?side1 ?side2 A10.out).mono ?_); (case side1 => exact uC ((Kd.V_reads' HO_6.out).2.2)); (case side2 => exact (Kd.V_reads' HO_6.out).2.1); rintro e w23 ⟨rfl, hb⟩; refine ⟨_, rfl, ?_⟩; have n0_ := zA (Kd.V_below (by (with_reducible repeat (first | apply Kd.V_alloc | apply Kd.V_drewN | apply Kd.V_drew)); exact HO_6.out) hb); have n1_ := xR HO_7 hb; have n2_ := zA (Kd.V_below (by (with_reducible repeat (first | apply Kd.V_alloc | apply Kd.V_drewN | apply Kd.V_drew)); exact HO_221001.out) hb); have n3_ := xB BK220 hb; have n4_ := xH HB hb; clear HO_6 HO_7 HO_221001 BK220 HB; have HO_6 := n0_; have HO_7 := n1_; have HO_221001 := n2_; have BK220 := n3_; have HB := n4_; clear n0_ n1_ n2_ n3_ n4_; (try clear hb); (try clear hb2); (try clear hk); (try clear hi); have p224 : 0 ≤ (0 : Int) := (by omega); have q224 : 0 < (x6_1.length : Int) := of_decide_eq_true (by first | (with_reducible assumption) | assumption); obtain ⟨ad224, e224, hx224_0⟩ := Kd.at_int (Kd.V_reads' HO_6.out).2.2 0 p224 q224; cases e224; have qi224 : (0 < x6_1.length) = True := eq_true (by omega); (try rw [show ((0 : Int)).toNat = 0 from rfl] at hx224_0); (try rw [Addr.add_zero'] at hx224_0); replace p224 := eq_true p224; replace q224 := eq_true q224) | ((with_reducible refine gate_builtin (b := .append) (xs := #[.tmp 29, .tmp 31]) rfl ?_); at_builtin; refine Kd.R_append (Kd.int .i64) (w0 := w) w.heap.size rfl (.tmp 29) (.tmp 31) 22 2 (.int .i64 0) 8 rfl Try.underlying22 info2 rfl (by decide) (by omega) u7 x7_1 (rd x6_1 0) [.int .i64 (rd x6_1 0)] (fun k_ => (w.heap.size ≤ k_)) (fun _ => False) rfl rfl ?aP (fun _ hk => hk.elim) ?aF ?aO ?aB ?aS ?aL ?_; (case aP => exact rfl); (case aB => exact (uH HB.out)); (case aF => exact (fun k_ hk => (Nat.le_trans (below_size (uH HB.out)) hk))); (case aO => exact (uR HO_7.out)); (case aS => exact (below_size (uH HB.out))); (case aL => have := LMc18.out; omega); intro v226 w24 ho hb hg hat; rw [← Ny225.out] at ho; have n0_ := zA (Kd.V_afterv (ok := (fun k_ => (P0_1_ k_ ∨ w.heap.size ≤ k_) ∧ k_ ≠ gb220)) (by (with_reducible repeat (first | apply Kd.V_alloc | apply Kd.V_drewN | apply Kd.V_drew)); exact Kd.V_mono HO_6.out (fun _ hk => ⟨⟨hk.1, hk.2.2⟩, hk.2.1⟩)) hg hat); have n1_ := zA (Kd.V_afterv (ok := (fun k_ => (P0_1_ k_ ∨ w.heap.size ≤ k_) ∧ k_ ≠ gb220)) (by (with_reducible repeat (first | apply Kd.V_alloc | apply Kd.V_drewN | apply Kd.V_drew)); exact Kd.V_mono HO_221001.out (fun _ hk => ⟨⟨hk.1, hk.2.2⟩, hk.2.1⟩)) hg hat); have n2_ := zA (blk_grown (g := gb220) (o := .cells #[.int .i64 a0_0, u221001] 41 (0, 0)) (uB BK220.out) hg (Kd.R_ne HO_7.out BK220.out (by decide))); have n3_ := zA (hb); have n4_ := zA (ho); clear HO_6 HO_221001 BK220 HB HO_7; have HO_6 := n0_; have HO_221001 := n1_; have BK220 := n2_; have HB := n3_; have HO227 := n4_; clear n0_ n1_ n2_ n3_ n4_ ho hb hg hat) | ((with_reducible refine gate_dst (N := 35) rfl ?_); refine Kd.R_lit (Kd.int .i64) _ 2 ?hg (N := 35) ?hd (xs := ([rd x6_1 0] : List Int)) (inner := [.int .i64 (rd x6_1 0)]) (ok := fun _ => True) (okp := fun _ => True) ?hr ?hp (fun _ hk => hk) trivial (Below.refl _ _) (Nat.le_refl _) (by simp) ?_; (case hd => rfl); (case hg => rfl); (case hr => first | (go_simp; done) | (go_simp; rfl)); (case hp => exact (Reps.one (show Kd.M (Kd.int .i64) _ _ _ (rd x6_1 0) [.int .i64 (rd x6_1 0)] from rfl) (Reps.none _ _))); intro v229 w25 ho26 hb hg_ hnew_; clear hg_ hnew_; (first | rw [← Ny228.out] at ho26 | (simp only [Int.reduceToNat] at ho26; rw [← Ny228.out] at ho26)); have n0_ := zA (Kd.V_elder' (by (with_reducible repeat (first | apply Kd.V_alloc | apply Kd.V_drewN | apply Kd.V_drew)); exact HO_6.out) (Kd.R_base ho26) hb); have n1_ := zA (Kd.V_elder' (by (with_reducible repeat (first | apply Kd.V_alloc | apply Kd.V_drewN | apply Kd.V_drew)); exact HO_221001.out) (Kd.R_base ho26) hb); have n2_ := zA (Kd.R_elder' (uR HO227.out) (Kd.R_base ho26) hb); have n3_ := zA (Kd.R_lower (Kd.R_new' (Kd.R_newM (M := fun k_ => (w.heap.size ≤ k_)) ho26 (below_size (uH HB.out)) (fun k_ h_ => h_)) (Kd.R_lt (uR HO227.out))) (below_size (uH HB.out))); have n4_ := xB BK220 hb; have n5_ := xH HB hb; clear HO_6 HO_221001 HO227 BK220 HB; have HO_6 := n0_; have HO_221001 := n1_; have HO227 := n2_; have HO230 := n3_; have BK220 := n4_; have HB := n5_; clear n0_ n1_ n2_ n3_ n4_ n5_ hb ho26) | ((with_reducible refine gate_callee (f := 50) rfl ?_); refine goesL_ (some 38) rfl rfl Try.func50 (by kernel_rfl) rfl #[.slice (some ad224) x6_1.length co22] rfl (by (try simp only [la, lb, lc]); first | done | rfl | (simp only [ld, le]; rfl)) ?_; (with_reducible refine (impl_length_int64.calls _ _ x6_1 t231 _ ?side1 ?side2 A19.out).mono ?_); (case side1 => exact uC ((Kd.V_reads' HO_6.out).2.2)); (case side2 => exact (Kd.V_reads' HO_6.out).2.1); rintro e w' ⟨rfl, ⟨nd, rfl⟩⟩; refine ⟨_, rfl, ?_⟩; obtain ⟨Ao27, co27, eo27⟩ := Kd.R_slice HO230.out; subst eo27) | ((with_reducible refine gate_callee (f := 49) rfl ?_); refine goesL_ (some 39) rfl rfl Try.func49 (by kernel_rfl) rfl #[.int .i64 t222, .slice Ao27 y228.length co27, .slice (some ad224) x6_1.length co22, .int .i64 t231] rfl (by (try simp only [la, lb, lc]); first | done | rfl | (simp only [ld, le]; rfl)) ?_; (with_reducible refine (impl_field_series.calls k1 t222 _ _ y228 _ _ x6_1 t231 t232 _ ?side1 ?side2 ?side3 ?side4 A20.out).mono ?_); (case side1 => exact uC ((Kd.R_reads' HO230.out).2.2)); (case side2 => exact (Kd.R_reads' HO230.out).2.1); (case side3 => exact uC ((Kd.V_reads' HO_6.out).2.2)); (case side4 => exact (Kd.V_reads' HO_6.out).2.1); rintro e w28 ⟨v233, rfl, ho0, hb⟩; refine ⟨_, rfl, ?_⟩; have n0_ := zA (Kd.V_elder' (by (with_reducible repeat (first | apply Kd.V_alloc | apply Kd.V_drewN | apply Kd.V_drew)); exact HO_6.out) (Kd.R_base ho0) hb); have n1_ := zA (Kd.V_elder' (by (with_reducible repeat (first | apply Kd.V_alloc | apply Kd.V_drewN | apply Kd.V_drew)); exact HO_221001.out) (Kd.R_base ho0) hb); have n2_ := zA (Kd.R_elder' (uR HO227.out) (Kd.R_base ho0) hb); have n3_ := zA (Kd.R_elder' (uR HO230.out) (Kd.R_base ho0) hb); have n4_ := zA (Kd.R_lower (Kd.R_new' (Kd.R_new' (Kd.R_newM (M := fun k_ => (w.heap.size ≤ k_)) ho0 (below_size (uH HB.out)) (fun k_ h_ => h_)) (Kd.R_lt (uR HO227.out))) (Kd.R_lt (uR HO230.out))) (below_size (uH HB.out))); have n5_ := xB BK220 hb; have n6_ := xH HB hb; clear HO_6 HO_221001 HO227 HO230 BK220 HB; have HO_6 := n0_; have HO_221001 := n1_; have HO227 := n2_; have HO230 := n3_; have HO234 := n4_; have BK220 := n5_; have HB := n6_; clear n0_ n1_ n2_ n3_ n4_ n5_ n6_; (try clear hb); (try clear hb2); (try clear hk); (try clear hi); (try clear ho0); obtain ⟨Ao29, co29, eo29⟩ := Kd.R_slice HO234.out; subst eo29; have n_ := zA (Kd.R_mono (ok' := (fun k_ => (w.heap.size ≤ k_) ∧ some k_ ≠ (v226 : Value).ownBlock ∧ some k_ ≠ (.slice Ao27 y228.length co27 : Value).ownBlock)) HO234.out (fun k_ hk => ⟨hk.1.1.1, ⟨hk.1.2, hk.2⟩⟩)); clear HO234; have HO234 := n_; clear n_; have q30 : (1 : Int) ≤ ((t232.length : Int) : Int) := of_decide_eq_true (by first | (with_reducible assumption) | assumption); obtain ⟨i030, hi030, _, hsz30, _⟩ := info_parts info2; have hcut30 := cut_from (P := Try.prog) 22 2 .i64 Try.underlying22 hi030 1 hsz30 Ao29 t232.length co29 1 (by omega) q30; have hr30 := Kd.Q_drop (k := (1 : Int).toNat) (Kd.Q_of_R HO234.out) (by omega); obtain ⟨A30, hA30⟩ : ∃ A1, A1 = (if co29 = (1 : Int).toNat then Ao29 else (Ao29 : Option Addr).map (·.add ((1 : Int).toNat * 1))) := ⟨_, rfl⟩; obtain ⟨c30, hc30⟩ : ∃ c1, c1 = co29 - (1 : Int).toNat := ⟨_, rfl⟩; have hy30 : y235.length = t232.length - (1 : Int).toNat := (by rw [Ny235.out, List.length_drop]); rw [← Ny235.out] at hr30; rw [← hy30, ← hA30, ← hc30] at hcut30; replace hr30 : Kd.Q (Kd.int .i64) 2 w28 w.heap.size (fun k_ => (w.heap.size ≤ k_) ∧ some k_ ≠ (v226 : Value).ownBlock ∧ some k_ ≠ (.slice Ao27 y228.length co27 : Value).ownBlock) (.slice A30 y235.length c30) y235 := (by rw [hA30, hc30, hy30]; exact hr30); have HE30 : Aside0 ((Value.slice A30 y235.length c30).ownBlock = (.slice Ao29 t232.length co29 : Value).ownBlock) := ⟨by rw [hA30]; split <;> (cases (Ao29 : Option Addr) <;> rfl)⟩; clear hy30 hi030 hsz30 HO234 hA30 hc30; have HO237 := zA hr30; clear hr30; replace q30 := eq_true q30; have n_ := zA (Kd.V_mono (ok' := fun k_ => ((((((P0_1_ k_ ∨ w.heap.size ≤ k_)) ∧ k_ ≠ gb220) ∧ some k_ ≠ (v226 : Value).ownBlock) ∧ some k_ ≠ (.slice Ao27 y228.length co27 : Value).ownBlock) ∧ some k_ ≠ (.slice A30 y235.length c30 : Value).ownBlock)) HO_6.out (fun k_ hk => ⟨⟨⟨⟨hk.1.1.1.1, hk.1.1.1.2⟩, hk.1.1.2⟩, hk.1.2⟩, (by rw [HE30.out]; exact hk.2)⟩)); clear HO_6; have HO_6 := n_; clear n_; have n_ := zA (Kd.V_mono (ok' := fun k_ => ((((((P0_1_ k_ ∨ w.heap.size ≤ k_)) ∧ k_ ≠ gb220) ∧ some k_ ≠ (v226 : Value).ownBlock) ∧ some k_ ≠ (.slice Ao27 y228.length co27 : Value).ownBlock) ∧ some k_ ≠ (.slice A30 y235.length c30 : Value).ownBlock)) HO_221001.out (fun k_ hk => ⟨⟨⟨⟨hk.1.1.1.1, hk.1.1.1.2⟩, hk.1.1.2⟩, hk.1.2⟩, (by rw [HE30.out]; exact hk.2)⟩)); clear HO_221001; have HO_221001 := n_; clear n_; have n_ := zA (Kd.R_mono (ok' := fun k_ => ((((w.heap.size ≤ k_)) ∧ some k_ ≠ (.slice Ao27 y228.length co27 : Value).ownBlock) ∧ some k_ ≠ (.slice A30 y235.length c30 : Value).ownBlock)) HO227.out (fun k_ hk => ⟨⟨hk.1.1, hk.1.2⟩, (by rw [HE30.out]; exact hk.2)⟩)); clear HO227; have HO227 := n_; clear n_; have n_ := zA (Kd.R_mono (ok' := fun k_ => (((((w.heap.size ≤ k_)) ∧ True) ∧ some k_ ≠ (v226 : Value).ownBlock) ∧ some k_ ≠ (.slice A30 y235.length c30 : Value).ownBlock)) HO230.out (fun k_ hk => ⟨⟨⟨hk.1.1.1, trivial⟩, hk.1.2⟩, (by rw [HE30.out]; exact hk.2)⟩)); clear HO230; have HO230 := n_; clear n_))
         go_loopg [43] k1 (fun kq v43 w' => ∃ (x9_2 : List Int) (x43_2 : Int), v43 = .int .i64 x43_2 ∧ Aside0 (impl_StepsOf.l1 kq t222 y225 x9_2 (y235.length : Int) x43_2 = some (r1, r2)) ∧ Aside0 (kq ≤ k1) ∧ Aside0 (Kd.R (Kd.int .i64) 2 w' w.heap.size (fun k_ => (w.heap.size ≤ k_) ∧ some k_ ≠ ((.slice A30 y235.length c30) : Value).ownBlock) v226 y225) ∧ Aside0 (Kd.Q (Kd.int .i64) 2 w' w.heap.size (fun k_ => (w.heap.size ≤ k_) ∧ some k_ ≠ (v226 : Value).ownBlock) (.slice A30 y235.length c30) x9_2) ∧ Aside0 (Kd.V (Kd.int .i64) 2 w' w.heap.size (fun k_ => (P0_1_ k_ ∨ w.heap.size ≤ k_) ∧ some k_ ≠ (v226 : Value).ownBlock ∧ some k_ ≠ ((.slice A30 y235.length c30) : Value).ownBlock ∧ k_ ≠ gb220) u221001 x221001_1) ∧ Aside0 (w'.heap[gb220]? = some (.cells #[.int .i64 a0_0, u221001] 41 (0, 0))) ∧ Aside0 (Below w.heap.size w w'))
         case atStart => exact ⟨(y235), (0), (by first | rfl | (simp; done) | (simp [*]; done)), H', ⟨Nat.le_refl _⟩, ⟨uR (Kd.R_mono HO227.out (fun _ hk => ⟨hk.1.1, hk.2⟩))⟩, ⟨by (with_reducible repeat (first | apply Kd.Q_alloc | apply Kd.Q_drewN | apply Kd.Q_drew)); exact Kd.Q_mono HO237.out (fun _ hk => ⟨hk.1, hk.2.1⟩)⟩, ⟨by (with_reducible repeat (first | apply Kd.V_alloc | apply Kd.V_drewN | apply Kd.V_drew)); exact Kd.V_mono HO_221001.out (fun _ hk => ⟨hk.1.1.1.1, ⟨hk.1.1.2, ⟨hk.2, hk.1.1.1.2⟩⟩⟩)⟩, ⟨uB BK220.out⟩, ⟨uH HB.out⟩⟩
         case round =>
          clear H'
          try clear c1
          try clear c2
          try clear p2
          try clear q2
          try clear hx2
          try clear qi2
          try clear c3
          try clear c3b0
          try clear c3b1
          try clear q3
          try clear c4
          try clear c5
          try clear c11
          try clear c14
          try clear c14b0
          try clear c14b1
          try clear c15
          try clear c15b0
          try clear c15b1
          try clear c18
          try clear c19
          try clear c21
          try clear c21b0
          try clear c21b1
          try clear p22
          try clear q22
          try clear hx22
          try clear qi22
          try clear c30
          try clear q30
          try clear hcz6_0
          try clear hcz6_1
          try clear hfz6_0
          try clear hfz6_1
          try clear hx224_0
          try clear p2
          try clear p224
          try clear q224
          try clear q30
          obtain ⟨x9_2, x43_2, rfl, HA, HK2, HO_7, HO_9, HO_221001, BK220, HB⟩ := hrel
          have hl9_2 := (Kd.Q_reads' HO_9.out).1
          rw [hl9_2] at HO_9
          (try simp only [hl9_2])
          (try simp only [hl9_2] at BK220)
          (try simp only [hl9_2] at HO_7)
          (try simp only [hl9_2] at HO_221001)
          cases gk with
          | zero => exact absurd HA.out (by simp [impl_StepsOf.l1])
          | succ k2 =>
           have H := HA.out
           clear HA
           simp only [impl_StepsOf.l1] at H
           by_cases c31 : x43_2 < (y235.length : Int)
           ·rw [if_pos c31] at H
            have c31b0 : decide (x43_2 < (y235.length : Int)) = true := decide_eq_true c31
            (try simp only [hl9_2] at c31b0)
            clear c31
            by_cases c32 : 0 ≤ x43_2
            ·rw [if_pos c32] at H
             have c32b0 : decide (0 ≤ x43_2) = true := decide_eq_true c32
             clear c32
             by_cases c33 : x43_2 < (x9_2.length : Int)
             ·rw [if_pos c33] at H
              have c33b0 : decide (x43_2 < (x9_2.length : Int)) = true := decide_eq_true c33
              clear c33
              replace H := Option.bind_eq_some_iff.mp H
              obtain ⟨t239, A340, H⟩ := H
              replace H : (impl_StepsOf.l1 k2 t222 y225 (x9_2.set (x43_2 : Int).toNat t239) (y235.length : Int) (wrap64 (x43_2 + 1))) = some (r1, r2) := H
              have A34 := zA A340
              clear A340
              obtain ⟨y240, hy240⟩ : ∃ y_ : List Int, y_ = (x9_2.set (x43_2 : Int).toNat t239) := ⟨_, rfl⟩
              replace H : (impl_StepsOf.l1 k2 t222 y225 y240 (y235.length : Int) (wrap64 (x43_2 + 1))) = some (r1, r2) := by first | (rw [hy240]; with_reducible exact H) | (have H2_ := (Option.bind_some _ _).symm.trans H; rw [hy240]; with_reducible exact H2_) | (have H2_ := (Option.bind_some _ _).symm.trans H; with_reducible exact H2_) | with_reducible exact H | (rw [hy240]; exact H) | exact H
              have Ny240 := zA hy240
              clear hy240
              have H' := zA H
              clear H
              have p238 : 0 ≤ (x43_2 : Int) := of_decide_eq_true (by first | (with_reducible assumption) | assumption)
              have q238 : x43_2 < (x9_2.length : Int) := of_decide_eq_true (by first | (with_reducible assumption) | assumption)
              obtain ⟨ad238, e238, hx238_0⟩ := Kd.at_int (Kd.Q_reads' HO_9.out).2.2 x43_2 p238 q238
              cases e238
              replace p238 := eq_true p238
              replace q238 := eq_true q238
              go_wp2_with (first | ((with_reducible refine gate_callee (f := 51) rfl ?_); refine goesL_ (some 53) rfl rfl Try.func51 (by kernel_rfl) rfl #[.int .i64 t222, .int .i64 (wrap64 (-(rd x9_2 x43_2)))] rfl (by (try simp only [la, lb, lc]); first | done | rfl | (simp only [ld, le]; rfl)) ?_; (with_reducible refine (impl_field_mod.calls t222 (wrap64 (-(rd x9_2 x43_2))) t239 _ A34.out).mono ?_); rintro e w' ⟨rfl, ⟨nd, rfl⟩⟩; refine ⟨_, rfl, ?_⟩; (try (rw [drewN_self wr]; generalize hq_ : World.drewN wr _ = wr; have n0_ : Aside0 (Kd.V (Kd.int .i64) 2 wr w.heap.size (fun k_ => (P0_1_ k_ ∨ w.heap.size ≤ k_) ∧ some k_ ≠ (v226 : Value).ownBlock ∧ some k_ ≠ (.slice (some ad238) x9_2.length c30 : Value).ownBlock ∧ k_ ≠ gb220) u221001 x221001_1) := ⟨by rw [← hq_]; exact (by (with_reducible repeat (first | apply Kd.V_alloc | apply Kd.V_drewN | apply Kd.V_drew)); exact HO_221001.out)⟩; have n1_ : Aside0 (Kd.R (Kd.int .i64) 2 wr w.heap.size (fun k_ => (w.heap.size ≤ k_) ∧ some k_ ≠ (.slice (some ad238) x9_2.length c30 : Value).ownBlock) v226 y225) := ⟨by rw [← hq_]; exact (uR HO_7.out)⟩; have n2_ : Aside0 (Kd.Q (Kd.int .i64) 2 wr w.heap.size (fun k_ => (w.heap.size ≤ k_) ∧ some k_ ≠ (v226 : Value).ownBlock) (.slice (some ad238) x9_2.length c30) x9_2) := ⟨by rw [← hq_]; exact (by (with_reducible repeat (first | apply Kd.Q_alloc | apply Kd.Q_drewN | apply Kd.Q_drew)); exact HO_9.out)⟩; have n3_ : Aside0 (wr.heap[gb220]? = some (.cells #[.int .i64 a0_0, u221001] 41 (0, 0))) := ⟨by rw [← hq_]; exact (uB BK220.out)⟩; have n4_ : Aside0 (Below w.heap.size w wr) := ⟨by rw [← hq_]; exact (uH HB.out)⟩; clear HO_221001 HO_7 HO_9 BK220 HB hq_; have HO_221001 := n0_; have HO_7 := n1_; have HO_9 := n2_; have BK220 := n3_; have HB := n4_; clear n0_ n1_ n2_ n3_ n4_)); have p35 : 0 ≤ (x43_2 : Int) := of_decide_eq_true (by first | (with_reducible assumption) | assumption); have q35 : (x43_2 : Int) < ((x9_2.length : Int) : Int) := of_decide_eq_true (by first | (with_reducible assumption) | assumption); obtain ⟨go35, oo35, co35, eo35, gb35, gl35, cl35, HG35⟩ := Kd.Q_form HO_9.out (by omega); (first | cases eo35 | (injection eo35 with ea_ en_ ec_; (first | subst ea_ | (injection ea_ with ea_; subst ea_)); subst ec_; clear en_)); have GB35 := zA gb35; have := geI GB35; have GG35 := zA HG35; clear gb35 gl35 HG35; (first | simp only [add_at] at hx238_0 | skip); obtain ⟨hx35_0, hf35_0⟩ := Kd.Q_cell 0 HO_9.out (x43_2 : Int) p35 q35; replace p35 := eq_true p35; replace q35 := eq_true q35; obtain ⟨hy36_, hz36_⟩ := Kd.Q_cell 0 HO_9.out (x43_2 : Int) (of_decide_eq_true (by first | (with_reducible assumption) | assumption)) (of_decide_eq_true (by first | (with_reducible assumption) | assumption)); have HP36 := Kd.Q_putg HO_9.out (x43_2 : Int) (of_decide_eq_true (by first | (with_reducible assumption) | assumption)) (by have h_ : (x43_2 : Int) < ((x9_2.length : Int) : Int) := of_decide_eq_true (by first | (with_reducible assumption) | assumption); first | exact h_ | (have e_ := (Kd.Q_reads' HO_9.out).1; omega) | simpa using h_) t239) | ((with_reducible refine gate_store (t := 2) (p := 54) rfl ?_); refine store_event (t := 2) (p := 54) (v := ?vo_w37) (w1 := (wr.setCell ⟨go35, oo35 + (x43_2 : Int).toNat, none⟩ (.int .i64 t239))) ?hg ?ho ?hn ?hr ?_; (case ho => rfl); (case hg => rfl); (case hn => rfl); (case hr => first | (go_simp; done) | (go_simp; rfl)); intro w37 hw; have hg : wr.grownBy w37 (some go35) := (by rw [hw]; exact HP36.2); have hp_ : Kd.Q (Kd.int .i64) 2 w37 w.heap.size (fun k_ => (w.heap.size ≤ k_) ∧ some k_ ≠ (v226 : Value).ownBlock) (.slice (some ⟨go35, oo35, none⟩) x9_2.length c30) y240 := (by rw [hw, Ny240.out]; exact HP36.1); clear HP36; have n0_ := zA (Kd.R_after (v := (.slice (some ⟨go35, oo35, none⟩) x9_2.length c30)) (v1 := (.slice (some ⟨go35, oo35, none⟩) x9_2.length c30)) (ok := (fun k_ => (w.heap.size ≤ k_))) (uR HO_7.out) hg (.inl rfl)); have n1_ := zA (hp_); have n2_ := zA (Kd.V_afterv (v := (.slice (some ⟨go35, oo35, none⟩) x9_2.length c30)) (v1 := (.slice (some ⟨go35, oo35, none⟩) x9_2.length c30)) (ok := (fun k_ => (P0_1_ k_ ∨ w.heap.size ≤ k_) ∧ some k_ ≠ (v226 : Value).ownBlock ∧ k_ ≠ gb220)) (by (with_reducible repeat (first | apply Kd.V_alloc | apply Kd.V_drewN | apply Kd.V_drew)); exact Kd.V_mono HO_221001.out (fun _ hk => ⟨⟨hk.1, ⟨hk.2.1, hk.2.2.2⟩⟩, hk.2.2.1⟩)) hg (.inl rfl)); have n3_ := zA (blk_grown (g := gb220) (o := .cells #[.int .i64 a0_0, u221001] 41 (0, 0)) (uB BK220.out) hg (Kd.Q_ne HO_9.out BK220.out (by decide))); have n4_ := zA ((by rw [hw]; exact below_set (HB.out) GB35.out : Below w.heap.size w w37)); clear HO_7 HO_9 HO_221001 BK220 HB; have HO_7 := n0_; have HO_9 := n1_; have HO_221001 := n2_; have BK220 := n3_; have HB := n4_; clear n0_ n1_ n2_ n3_ n4_ hg hw hp_))
              (try simp only [← hl9_2])
              go_roundg k2
              case measure => have := HK1.out; have := HK2.out; omega
              case rel => exact ⟨(y240), (wrap64 (x43_2 + 1)), (by first | rfl | (simp; done) | (simp [*]; done)), H', ⟨by have := HK1.out; have := HK2.out; omega⟩, ⟨by (try simp only [hl9_2]); (with_reducible repeat (first | apply Kd.R_alloc | apply Kd.R_drewN | apply Kd.R_drew)); exact HO_7.out⟩, ⟨by (try simp only [hl9_2]); (with_reducible repeat (first | apply Kd.Q_alloc | apply Kd.Q_drewN | apply Kd.Q_drew)); exact HO_9.out⟩, ⟨by (try simp only [hl9_2]); (with_reducible repeat (first | apply Kd.V_alloc | apply Kd.V_drewN | apply Kd.V_drew)); exact Kd.V_mono HO_221001.out (fun _ hk => ⟨hk.1.1, ⟨hk.1.2.1, ⟨hk.2, hk.1.2.2⟩⟩⟩)⟩, ⟨by (try simp only [hl9_2]); (with_reducible repeat (first | refine blk_drewN ?_ _ | refine blk_drew ?_ | refine blk_alloc ?_ _)); exact BK220.out⟩, ⟨uH HB.out⟩⟩
             ·rw [if_neg c33] at H
              exact absurd H (by simp)
            ·rw [if_neg c32] at H
             exact absurd H (by simp)
           ·rw [if_neg c31] at H
            have c31b0 : decide (x43_2 < (y235.length : Int)) = false := decide_eq_false c31
            (try simp only [hl9_2] at c31b0)
            clear c31
            have H' := zA H
            clear H
            go_wp2
            (try simp only [← hl9_2])
            go_roundg k2
            case measure => have := HK1.out; have := HK2.out; omega
            case rel => exact ⟨(x9_2), (y225), (x221001_1), (u221001), H', ⟨by have := HK1.out; have := HK2.out; omega⟩, ⟨by rw [hl9_2]; exact Kd.V_mono (base := w.heap.size) (Kd.Q_V (base := w.heap.size) (Kd.Q_types HO_9.out BK220.out (by decide))) (fun _ hk => ⟨.inr hk.1.1, hk.1.2, hk.2⟩)⟩, ⟨by (try simp only [hl9_2]); (with_reducible repeat (first | apply Kd.R_alloc | apply Kd.R_drewN | apply Kd.R_drew)); exact Kd.R_mono HO_7.out (fun _ hk => hk.1)⟩, ⟨by (try simp only [hl9_2]); (with_reducible repeat (first | apply Kd.V_alloc | apply Kd.V_drewN | apply Kd.V_drew)); exact Kd.V_mono HO_221001.out (fun _ hk => ⟨hk.1, ⟨hk.2.1, hk.2.2.2⟩⟩)⟩, ⟨by (try simp only [hl9_2]); (with_reducible repeat (first | refine blk_drewN ?_ _ | refine blk_drew ?_ | refine blk_alloc ?_ _)); exact BK220.out⟩, ⟨uH HB.out⟩⟩
        ·rw [if_neg c21] at H
         exact absurd H (by simp)
       ·rw [if_neg c18] at H
        exact absurd H (by simp)
     ·rw [if_neg c14] at H
      exact absurd H (by simp)
 ·rw [if_neg c3] at H
  have c3b0 : (t221 == 0) = false := beq_eq_false_iff_ne.mpr c3
  have c3b1 : (t221 != 0) = true := bne_iff_ne.mpr c3
  simp only [Option.some.injEq, Prod.mk.injEq] at H
  obtain ⟨rfl, rfl⟩ := H
  go_enter Try.func19, Try.ntmps19
  go_wp2_with (first | ((with_reducible refine gate_dst (N := 1) rfl ?_); refine box_event ?hg (N := 1) ?hd (cs := #[.int .i64 a0_0, .slice A0_1 l0_1.length c0_1]) (t := 41) ?hr ?_; (case hd => rfl); (case hg => rfl); (case hr => first | (go_simp; done) | (go_simp; rfl)); intro gb220 hg w38 hbox hb; have n0_ := zA (Kd.V_below (Kd.V_elderB (by (with_reducible repeat (first | apply Kd.V_alloc | apply Kd.V_drewN | apply Kd.V_drew)); exact HO0_1.out) gb220 (Nat.le_of_eq hg.symm)) hb); have n1_ := xH HB hb; have n2_ := zA (hbox); have n3_ := zA ((by rw [hg]; exact (below_size (uH HB.out)) : w.heap.size ≤ gb220)); have n4_ := zA ((by rw [hg]; exact (below_size (uH HB.out)) : w.heap.size ≤ gb220)); clear HO0_1 HB; have HO0_1 := n0_; have HB := n1_; have BK220 := n2_; have GW220 := n3_; have GE220 := n4_; have := geI GE220; clear n0_ n1_ n2_ n3_ n4_ hb hbox hg; have hcz39_0 : w38.cell? ⟨gb220, 0, none⟩ = some (.int .i64 a0_0) := (blk_cell BK220.out 0).trans rfl; have hcz39_1 : w38.cell? ⟨gb220, 1, none⟩ = some (.slice A0_1 l0_1.length c0_1) := (blk_cell BK220.out 1).trans rfl; have hfz39_0 := blk_frozen BK220.out 0; have hfz39_1 := blk_frozen BK220.out 1) | ((with_reducible refine gate_callee (f := 45) rfl ?_); refine goesL_ (some 13) rfl rfl Try.func45 (by kernel_rfl) rfl #[.agg #[.int .i64 a0_0, .slice A0_1 l0_1.length c0_1], (.func (.func 46) #[] #[]), .slice none 0 0] rfl (by (try simp only [la, lb, lc]); first | done | rfl | (simp only [ld, le]; rfl)) ?_; (refine (impl_momentsCode.calls k a0_0 _ _ l0_1 _ (impl_always.f.getD false) _ _ ([] : List (List Int)) t221 _ ?side1 ?side2 ?side3 ?side4 ?side5 A2.out).mono ?_); (case side1 => exact uC ((Kd.V_reads' HO0_1.out).2.2)); (case side2 => exact (Kd.V_reads' HO0_1.out).2.1); (case side3 => exact FnB.of Try.func46 (by kernel_rfl) rfl (fun W_ hW_ => calls_of_args (args' := #[]) (by simp) ((impl_always.calls  _ W_  rfl).mono fun e_ W2_ h_ => ⟨h_.1, h_.2.below⟩))); (case side4 => exact Kd.C_nil _ _); (case side5 => exact Nat.le_refl _); rintro e w40 ⟨rfl, hb⟩; refine ⟨_, rfl, ?_⟩; have n0_ := zA (Kd.V_below (by (with_reducible repeat (first | apply Kd.V_alloc | apply Kd.V_drewN | apply Kd.V_drew)); exact HO0_1.out) hb); have n1_ := xB BK220 hb; have n2_ := xH HB hb; clear HO0_1 BK220 HB; have HO0_1 := n0_; have BK220 := n1_; have HB := n2_; clear n0_ n1_ n2_; (try clear hb); (try clear hb2); (try clear hk); (try clear hi)))
  go_ret2
  exact ⟨_, by first | rfl | (simp [errW_none, errW_some] <;> rfl) | (simp [*, errW_none, errW_some] <;> rfl), by first | exact Kd.R_nil _ _ _ _ _ | exact Kd.N_nil _ _ _ _ _ | exact Kd.V_nil _ _ _ _ _ | exact Kd.Q_nil _ _ _ _ _ | exact Kd.S_nil _ _ _ _ _, uH HB.out⟩

end Go.Proofs.Ytjdannndpfkadaa.Pr
