/- Texts of this session in one: what functions of the program compute, and plain facts of it, under the conditions that each theorem names. -/
import Derived.Deep.RegionHeld
import Derived.RangeFuncBound
import Derived.RangeFuncCalls
import Derived.RangeFuncFrom
import Derived.Test.YteoipomgldioeaaKSumOf1
import Derived.Test.YteoipomgldioeaaKSumOf3
import Derived.Test.YteoipomgldioeaaKSumOf4
/- Polynomials: the reference's test; no condition. -/
namespace Go.Proofs.Yteoipomgldioeaa.Pr
open Go.RowKit Go.Proofs.YteoipomgldioeaaW.PrintWords Go.Proofs.YteoipomgldioeaaW.PrintLast Go.Proofs.YteoipomgldioeaaW.PrintMore

theorem specPoly_l0 (p : Int) (l : List Int) (hl : Sm l.length) (d : Nat) : ∀ i, i + d = l.length → Ev (fun k => spec_l01Poly.l0 k p l (i : Int)) (decide (Nm p (l.drop i)) && (decide (l.length ≤ 25) && lastOk l)) := by
  induction d with
  | zero =>
    intro i hi
    refine Ev.step (fun k => by rw [spec_l01Poly.l0]) ?_
    refine Ev.neg (by omega) ?_
    rw [List.drop_eq_nil_of_le (by omega), decide_eq_true (Nm.nil p), Bool.true_and]
    by_cases h : l.length ≤ 25
    · refine Ev.pos (by omega) (Ev.eq ?_)
      rw [lastPart l hl]; simp [h]
    · exact Ev.neg (by omega) (Ev.some' (by simp [h]))
  | succ d ih =>
    intro i hi
    refine Ev.step (fun k => by rw [spec_l01Poly.l0]) ?_
    refine Ev.pos (by omega) (Ev.pos (by omega) ?_)
    rw [rd_nat, wsucc (i := i) (n := l.length) (by omega) (by unfold Sm at hl; omega)]
    by_cases h : l.getD i 0 < 0
    · refine Ev.pos h (Ev.some' ?_)
      rw [decide_eq_false (fun g => by have := ((Nm_drop (by omega : i < l.length)).1 g).1.1; omega), Bool.false_and]
    · refine Ev.neg h ?_
      by_cases h' : p ≤ l.getD i 0
      · refine Ev.pos h' (Ev.some' ?_)
        rw [decide_eq_false (fun g => by have := ((Nm_drop (by omega : i < l.length)).1 g).1.2; omega), Bool.false_and]
      · refine Ev.neg h' (Ev.cast (ih (i + 1) (by omega)) ?_)
        congr 1
        apply decide_eq_decide.2
        rw [Nm_drop (by omega : i < l.length)]
        exact ⟨fun g => ⟨⟨by omega, by omega⟩, g⟩, fun g => g.2⟩
theorem specPoly_ev (p : Int) (l : List Int) (hl : Sm l.length) : Ev (fun k => spec_l01Poly.f k p l) (polyB p l) := by
  unfold spec_l01Poly.f polyB
  simpa using specPoly_l0 p l hl l.length 0 (by omega)
end Go.Proofs.Yteoipomgldioeaa.Pr
/- field.value: the value of a polynomial, read from the last number on: what the call answers, for every list within the reach and every p other than 0. -/
namespace Go.Proofs.Yteoipomgldioeaa.Pr
open Go.RowKit Go.Shelf Go.Proofs.YteoipomgldioeaaW.PrintWords Go.Proofs.YteoipomgldioeaaW.PrintLast Go.Proofs.YteoipomgldioeaaW.PrintMore

attribute [local go_sem] Oper.semAt_some

/-- One round. -/
def valStep (p x o c : Int) : Int := Int.tmod (wrap64 (Int.tmod (wrap64 (wrap64 (o * x) + c)) p + p)) p
def valOf (p x : Int) (ys : List (Int × Int)) : Int := ys.foldl (fun o y => valStep p x o y.2) 0
theorem valOf_snoc (p x : Int) (ys : List (Int × Int)) (y : Int × Int) : valOf p x (ys ++ [y]) = valStep p x (valOf p x ys) y.2 := by simp [valOf]
def impl_field_value.f (p : Int) (l : List Int) (x : Int) : Option Int := if p = 0 then none else if l.length ≤ 17592186040320 then some (valOf p x (upto (bk l l.length) l.length)) else none

theorem cell_of_box_v {W : World} {B : Nat} {v : Value} {t : TypeId} (h : W.heap[B]? = some (.cells #[v] t (0, 0))) : W.cell? ⟨B, 0, none⟩ = some v ∧ W.frozen? ⟨B, 0, none⟩ = false := by
  constructor <;> simp [World.cell?, World.frozen?, h]
theorem cell_new_v (W : World) (v : Value) (t : TypeId) : (W.alloc (.cells #[v] t)).cell? ⟨W.heap.size, 0, none⟩ = some v ∧ (W.alloc (.cells #[v] t)).frozen? ⟨W.heap.size, 0, none⟩ = false :=
  cell_of_box_v (World.alloc_heap_new W _)
theorem cell_alloc_v {W : World} {a : Addr} {v : Value} (o : Obj) (h : W.cell? a = some v) : (W.alloc o).cell? a = some v := cell_kept h (World.grownBy_alloc W o none) (fun r e => by cases e)
theorem frozen_alloc_v {W : World} {a : Addr} {v : Value} (o : Obj) (h : W.cell? a = some v) (hf : W.frozen? a = false) : (W.alloc o).frozen? a = false := (frozen_kept h (World.grownBy_alloc W o none) (fun r e => by cases e)).trans hf

set_option maxRecDepth 100000 in
set_option maxHeartbeats 2000000 in
theorem impl_field_value.calls_in (F : Fence) (n : Nat) (h1 : F.fn 103) (h2 : F.fn 130) (h3 : F.fn 142) (h4 : F.fn 97) (hro : F.round = none) (hn : 4 ≤ n)
    (hmod : ∀ (k m : Nat) (x y r : Int) (W : World), impl_field_mod.f x y = some r → CallsIn (F.inRound k) m Try.prog 97 #[.int .i64 x, .int .i64 y] W fun e W' => e = .returned (.int .i64 r) ∧ Drawn0 W W')
    (a0 : Int) (A1 : Option Addr) (c1 : Nat) (l1 : List Int) (a2 : Int) (hp : a0 ≠ 0) (hl : l1.length ≤ 17592186040320) (w : World) (hI : IntsB w.heap.size w (.slice A1 l1.length c1) l1) :
    CallsIn F n Try.prog 103 #[.int .i64 a0, .slice A1 l1.length c1, .int .i64 a2] w fun e W' => e = .returned (.int .i64 (valOf a0 a2 (upto (bk l1 l1.length) l1.length))) ∧ Below w.heap.size w W' := by
  have hn1 : 1 ≤ n := by omega
  refine callsIn_of_wp_marks Try.func103 rfl h1 ?_ hro
  simp only [Try.ntmps103, List.size_toArray, List.length_cons, List.length_nil, Nat.reduceAdd, Nat.reduceSub, Array.replicate_succ, Array.replicate_zero, List.push_toArray, List.append_toArray, List.nil_append, List.cons_append]
  gi_wp2_with (gi_at_call 130; refine (back_in F (n - 1) h2 hro _ _ _ _).mono ?_; rintro e w' ⟨rfl, rfl⟩)
  have c0 := cell_new_v w (.int .i64 a0) 77
  have c1' := cell_new_v (w.alloc (.cells #[.int .i64 a0] 77)) (.int .i64 a2) 2
  have c2 := cell_new_v ((w.alloc (.cells #[.int .i64 a0] 77)).alloc (.cells #[.int .i64 a2] 2)) (.int .i64 0) 2
  have c3 := cell_new_v (((w.alloc (.cells #[.int .i64 a0] 77)).alloc (.cells #[.int .i64 a2] 2)).alloc (.cells #[.int .i64 0] 2)) (.slice A1 l1.length c1) 22
  simp only [World.size_alloc] at c1' c2 c3
  have hB0 : Below w.heap.size w ((((w.alloc (.cells #[.int .i64 a0] 77)).alloc (.cells #[.int .i64 a2] 2)).alloc (.cells #[.int .i64 0] 2)).alloc (.cells #[.slice A1 l1.length c1] 22)) := ((((Below.refl _ w).alloc (Nat.le_refl _) _).alloc (by simp) _).alloc (by simp; omega) _).alloc (by simp; omega) _
  refine wpIn_rangeFunc_ownF hro hn1 (gf := 142) (lb := #[.pointer (some ⟨w.heap.size + 1 + 1 + 1, 0, none⟩)]) rfl h3 (enters_of Try.func142 (by kernel_rfl) rfl)
    (back_stops F (n - 1) h3 hro (by omega) (w.heap.size + 1 + 1 + 1) w.heap.size (.slice A1 l1.length c1) l1 (by omega) _ (by simp) (by simp; omega) c3.1 (hI.below hB0)) (fun h k => h.trans k)
    (fun W l o o' hl ho hc hw => ⟨belowK_b (by simp; omega) W l o o' hl ho hc hw, fun v hv => cell_kept hv (grownBy_putObj' _ l o') (fun r e => by cases e; exact ⟨_, ho, hc⟩)⟩) (Below.refl _ _) (fun _ => rfl)
    (fun pre W => ((W.cell? ⟨w.heap.size, 0, none⟩ = some (.int .i64 a0) ∧ W.cell? ⟨w.heap.size + 1, 0, none⟩ = some (.int .i64 a2)) ∧ (W.cell? ⟨w.heap.size + 1 + 1, 0, none⟩ = some (.int .i64 (valOf a0 a2 pre)) ∧ W.frozen? ⟨w.heap.size + 1 + 1, 0, none⟩ = false)) ∧ Below w.heap.size w W)
    (fun _ _ _ => False)
    (OwnFrom.and (Own.from (fun s A B row hs hg hr => ⟨⟨cell_kept hs.1.1 hg hr, cell_kept hs.1.2 hg hr⟩, cell_kept hs.2.1 hg hr, (frozen_kept hs.2.1 hg hr).trans hs.2.2⟩) _) (ownFrom_below (Nat.le_refl _) (by simp; omega)))
    (fun _ _ _ _ _ hs _ _ => hs)
    ⟨⟨⟨cell_alloc_v _ (cell_alloc_v _ (cell_alloc_v _ c0.1)), cell_alloc_v _ (cell_alloc_v _ c1'.1)⟩, cell_alloc_v _ c2.1, frozen_alloc_v _ c2.1 c2.2⟩, hB0⟩
    (fun x => { tmps := #[.int .i64 a0, .slice A1 l1.length c1, .int .i64 a2, .pointer (some ⟨w.heap.size, 0, none⟩), undef, .pointer (some ⟨w.heap.size + 1, 0, none⟩), .int .i64 0, .pointer (some ⟨w.heap.size + 1 + 1, 0, none⟩), undef, .int .i64 x.2, .slice A1 l1.length c1, .func (.func 142) #[] #[.pointer (some ⟨w.heap.size + 1 + 1 + 1, 0, none⟩)], .int .i64 x.1, .int .i64 x.2, undef, undef, undef, undef, undef, undef, undef, undef], defers := [] }) ?assign ?body ?done ?stop
  case assign =>
    intro l x W K hK
    gi_wp2
    exact hK
  case body =>
    rintro l pre x W ⟨⟨⟨hc0, hc1⟩, hc2, hf2⟩, hB⟩ _
    have hm : impl_field_mod.f a0 (wrap64 (wrap64 (valOf a0 a2 pre * a2) + x.2)) = some (valStep a0 a2 (valOf a0 a2 pre) x.2) := by
      unfold impl_field_mod.f valStep
      rw [if_neg hp]
    gi_wp2
    refine ⟨fun _ => by omega, (hmod _ _ _ _ _ _ hm).mono ?_⟩
    rintro e w' ⟨rfl, ⟨nd, rfl⟩⟩
    have d0 : (W.drewN nd).cell? ⟨w.heap.size + 1 + 1, 0, none⟩ = some (.int .i64 (valOf a0 a2 pre)) := hc2
    have d1 : (W.drewN nd).frozen? ⟨w.heap.size + 1 + 1, 0, none⟩ = false := hf2
    have d2 : (W.drewN nd).cell? ⟨w.heap.size, 0, none⟩ = some (.int .i64 a0) := hc0
    have d3 : (W.drewN nd).cell? ⟨w.heap.size + 1, 0, none⟩ = some (.int .i64 a2) := hc1
    have kO : KeepsOthers W (W.drewN nd) := ⟨Nat.le_refl _, fun _ _ h _ => h⟩
    have kB : Below w.heap.size W (W.drewN nd) := pw_below_drewN (Below.refl _ _) nd
    have oth : ∀ (g : Nat) (v v' : Value), g ≠ w.heap.size + 1 + 1 → (W.drewN nd).cell? ⟨g, 0, none⟩ = some v → ((W.drewN nd).setCell ⟨w.heap.size + 1 + 1, 0, none⟩ v').cell? ⟨g, 0, none⟩ = some v := by
      intro g v v' hg hv
      exact (World.cell?_setCell_far _ _ _ _ (fun e => hg e.symm)).trans hv
    gi_wp2
    exact ⟨kO.trans (KeepsOthers.setCell _ _ _), ⟨kB.setCell (p := ⟨w.heap.size + 1 + 1, 0, none⟩) (show w.heap.size ≤ w.heap.size + 1 + 1 from by omega) _, fun v hv => oth _ _ _ (by omega) hv⟩, ⟨⟨oth _ _ _ (by omega) d2, oth _ _ _ (by omega) d3⟩, by rw [valOf_snoc]; exact World.cell?_setCell_same' _ _ _ (by rw [d0]; rfl), by rw [World.frozen?_setCell]; exact d1⟩, (hB.trans kB).setCell (p := ⟨w.heap.size + 1 + 1, 0, none⟩) (show w.heap.size ≤ w.heap.size + 1 + 1 from by omega) _⟩
  case done =>
    rintro D ys W hD rfl ⟨⟨_, hc, _⟩, hB⟩ hK
    gi_wp2
    refine ⟨by simp, .inl ⟨_, _, rfl, run_takeDeferred hK, ?_⟩⟩
    exact ⟨_, results_tmp rfl _ _ _, rfl, hB.trans (belowK_b (w := w) (Nat.le_refl _) W D _ _ (by simp at hD; omega) hK rfl rfl)⟩
  case stop =>
    rintro D c pre W _ _ h _
    exact h.elim
/-- What a slice that came in holds, as the loop wants it. -/
theorem intsB_of_C {w : World} {A1 : Option Addr} {c1 : Nat} {l1 : List Int} (hr1 : Kd.C (Kd.int .i64) w A1 l1.length l1) (hc1 : l1.length ≤ c1) : IntsB w.heap.size w (.slice A1 l1.length c1) l1 := by
  have h := Kd.reads_of_C (enc := Value.int .i64) (d := (0 : Int)) (h1 := fun _ => rfl) hr1
  by_cases h0 : l1.length = 0
  · rw [List.length_eq_zero_iff] at h0
    subst h0
    exact .inl ⟨rfl, A1, c1, rfl⟩
  · obtain ⟨ad, rfl, hc⟩ := h.2.2 (by omega)
    refine .inr ⟨ad, c1, rfl, ?_, fun j hj => ?_⟩
    · have := World.block_lt_of_cell? w _ (hc 0 (by omega))
      rwa [add_block] at this
    · have := hc j hj
      rw [List.getD_eq_getElem?_getD] at this
      exact this
theorem impl_field_value.calls (a0 : Int) (A1 : Option Addr) (c1 : Nat) (l1 : List Int) (a2 : Int) (r : Int) (w : World) (hr1 : Kd.C (Kd.int .i64) w A1 l1.length l1) (hc1 : l1.length ≤ c1) (h : impl_field_value.f a0 l1 a2 = some r) :
    Calls Try.prog 103 #[.int .i64 a0, .slice A1 l1.length c1, .int .i64 a2] w fun e w' => e = .returned (.int .i64 r) ∧ Below w.heap.size w w' := by
  unfold impl_field_value.f at h
  split at h
  · cases h
  · rename_i hp
    split at h
    · rename_i hl
      cases h
      exact callsIn_wide.1 (impl_field_value.calls_in Fence.wide 4 trivial trivial trivial trivial rfl (by omega) (fun k m x y r W hm => (CallsIn.inRound k (callsIn_wide.2 (impl_field_mod.calls x y r W hm)))) a0 A1 c1 l1 a2 hp hl w (intsB_of_C hr1 hc1))
    · cases h
end Go.Proofs.Yteoipomgldioeaa.Pr
/- Printed by a program of this session out of the translation: what these functions of the program compute, under the conditions that each theorem names. -/
namespace Go.Proofs.Yteoipomgldioeaa.Pr
open Go.RowKit Go.Proofs.YteoipomgldioeaaW.PrintWords Go.Proofs.YteoipomgldioeaaW.PrintLast Go.Proofs.YteoipomgldioeaaW.PrintMore
attribute [local go_sem] max2_int min2_int max_two min_two max_three min_three max_four min_four   -- for this text's walks alone
set_option linter.unusedVariables false
set_option linter.unusedSimpArgs false

/-! ### impl_Rule_sum: function 57 -/
def impl_Rule_sum.l0 : Nat → List Int → Int → List Int → Int → Int → Int → List Int → List Int → Option (Int)
 | 0, _, _, _, _, _, _, _, _ => none
 | k + 1, x1, x5, x9, x10, x11, x254000, x254001, x254002 => if x11 < x10 then (if 0 ≤ x11 then (if x11 < (x9.length : Int) then ((impl_Rule_field.f x254000 x254001 x254002).bind fun t255 => (if x11 < (x254002.length : Int) then ((impl_Rule_field.f x254000 x254001 x254002).bind fun t257 => ((impl_field_value.f t257 x1 (rd x9 x11)).bind fun t258 => ((impl_field_mod.f t255 (wrap64 (x5 + (wrap64 ((rd x254002 x11) * t258))))).bind fun t259 => (impl_Rule_sum.l0 k x1 t259 x9 x10 (wrap64 (x11 + 1)) x254000 x254001 x254002)))) else (none))) else (none)) else (none)) else (some x5)
def impl_Rule_sum.f (k : Nat) (a0_0 : Int) (l0_1 : List Int) (l0_2 : List Int) (l1 : List Int) : Option (Int) := impl_Rule_sum.l0 k l1 0 l0_1 (l0_1.length : Int) 0 a0_0 l0_1 l0_2
theorem impl_Rule_sum.mono_l : ∀ k, (∀ y0 y1 y2 y3 y4 y5 y6 y7, LeO (impl_Rule_sum.l0 k y0 y1 y2 y3 y4 y5 y6 y7) (impl_Rule_sum.l0 (k + 1) y0 y1 y2 y3 y4 y5 y6 y7))
 | 0 => fun _ _ _ _ _ _ _ _ r h => by simp [impl_Rule_sum.l0] at h
 | k + 1 => by
  have ih0 := impl_Rule_sum.mono_l k
  ·intro y0 y1 y2 y3 y4 y5 y6 y7
   unfold impl_Rule_sum.l0
   repeat' first
   | (with_reducible exact ih0 _ _ _ _ _ _ _ _)
   | (with_reducible exact LeO.refl _)
   | (with_reducible exact LeO.none _)
   | (with_reducible refine LeO.ite ?_ ?_)
   | (with_reducible refine LeO.bind ?_ (fun _ => ?_))
   | exact ih0 _ _ _ _ _ _ _ _
   | exact LeO.none _
   | refine LeO.ite ?_ ?_
   | refine LeO.bind ?_ (fun _ => ?_)
theorem impl_Rule_sum.mono : ∀ a0 a1 a2 a3 k, LeO (impl_Rule_sum.f k a0 a1 a2 a3) (impl_Rule_sum.f (k + 1) a0 a1 a2 a3) := by
 intro a0 a1 a2 a3 k
 have ih0 := impl_Rule_sum.mono_l k
 unfold impl_Rule_sum.f
 repeat' first
   | (with_reducible exact ih0 _ _ _ _ _ _ _ _)
   | (with_reducible exact LeO.refl _)
   | (with_reducible exact LeO.none _)
   | (with_reducible refine LeO.ite ?_ ?_)
   | (with_reducible refine LeO.bind ?_ (fun _ => ?_))
   | exact ih0 _ _ _ _ _ _ _ _
   | exact LeO.none _
   | refine LeO.ite ?_ ?_
   | refine LeO.bind ?_ (fun _ => ?_)
def impl_Rule_sum.T5 : Bool × List (List Nat × List Nat) := (true, [([], []), ([0], [0]), ([], []), ([], []), ([3], [3]), ([], []), ([4, 5], [4, 5]), ([6], [6]), ([], []), ([8, 1], [8]), ([], []), ([], []), ([9, 10, 11, 9], [9, 10, 11]), ([7, 12], [7, 12]), ([2, 13], [2, 13]), ([1, 14, 12], [1, 14]), ([15, 15, 0, 1, 2, 3, 4, 5, 6, 7, 8, 9, 10, 11, 12, 13, 14, 15], [2, 15])])
def impl_Rule_sum.B5 : List Nat := [0, 1, 0, 0, 8, 0, 56, 120, 0, 259, 0, 0, 3843, 8187, 16383, 32767, 65535]
theorem impl_Rule_sum.tab5 : rtab .any (opsOf Try.f57 5) = impl_Rule_sum.T5 := by kernel_rfl
theorem impl_Rule_sum.bits5 : waitsOk impl_Rule_sum.T5.2 impl_Rule_sum.B5 = true := by kernel_rfl
set_option maxHeartbeats 8000000 in
set_option maxRecDepth 100000 in
theorem impl_Rule_sum.calls (k : Nat) (a0_0 : Int) (A0_1 : Option Addr) (c0_1 : Nat) (l0_1 : List Int) (A0_2 : Option Addr) (c0_2 : Nat) (l0_2 : List Int) (A1 : Option Addr) (c1 : Nat) (l1 : List Int) (r : Int) (w : World) (hr0_1 : Kd.C (Kd.int .i64) w A0_1 l0_1.length l0_1) (hc0_1 : l0_1.length ≤ c0_1) (hr0_2 : Kd.C (Kd.int .i64) w A0_2 l0_2.length l0_2) (hc0_2 : l0_2.length ≤ c0_2) (hr1 : Kd.C (Kd.int .i64) w A1 l1.length l1) (hc1 : l1.length ≤ c1) (h : impl_Rule_sum.f k a0_0 l0_1 l0_2 l1 = some r) :
  Calls Try.prog 57 #[.agg #[.int .i64 a0_0, .slice A0_1 l0_1.length c0_1, .slice A0_2 l0_2.length c0_2], .slice A1 l1.length c1] w fun e w' => e = .returned (.int .i64 r) ∧ Below w.heap.size w w' := by
 have hu26 := Try.underlying26
 have HR0_1 := zA hr0_1
 have HC0_1 := zA hc0_1
 clear hr0_1 hc0_1
 have HR0_2 := zA hr0_2
 have HC0_2 := zA hc0_2
 clear hr0_2 hc0_2
 have HR1 := zA hr1
 have HC1 := zA hc1
 clear hr1 hc1
 have HB := zA (Below.refl w.heap.size w)
 have H : (impl_Rule_sum.l0 k l1 0 l0_1 (l0_1.length : Int) 0 a0_0 l0_1 l0_2) = some r := h
 clear h
 have H' := zA H
 clear H
 go_enter Try.func57, Try.ntmps57
 go_wp2_with (first | ((with_reducible refine gate_dst (N := 2) rfl ?_); refine box_event ?hg (N := 2) ?hd (cs := #[.int .i64 a0_0, .slice A0_1 l0_1.length c0_1, .slice A0_2 l0_2.length c0_2]) (t := 26) ?hr ?_; (case hd => rfl); (case hg => rfl); (case hr => first | (go_simp; done) | (go_simp; rfl)); intro gb253 hg w3 hbox hb; have n0_ := xH HB hb; have n1_ := zA (hbox); have n2_ := zA ((by rw [hg]; exact (below_size (uH HB.out)) : w.heap.size ≤ gb253)); have n3_ := zA ((by rw [hg]; exact (below_size (uH HB.out)) : w.heap.size ≤ gb253)); clear HB; have HB := n0_; have BK253 := n1_; have GW253 := n2_; have GE253 := n3_; have := geI GE253; clear n0_ n1_ n2_ n3_ hb hbox hg; have hcz4_0 : w3.cell? ⟨gb253, 0, none⟩ = some (.int .i64 a0_0) := (blk_cell BK253.out 0).trans rfl; have hcz4_1 : w3.cell? ⟨gb253, 1, none⟩ = some (.slice A0_1 l0_1.length c0_1) := (blk_cell BK253.out 1).trans rfl; have hcz4_2 : w3.cell? ⟨gb253, 2, none⟩ = some (.slice A0_2 l0_2.length c0_2) := (blk_cell BK253.out 2).trans rfl; have hfz4_0 := blk_frozen BK253.out 0; have hfz4_1 := blk_frozen BK253.out 1; have hfz4_2 := blk_frozen BK253.out 2))
 go_loopg [5, 11] k (fun kq v5 v11 w' => ∃ (x5_1 : Int) (x11_1 : Int), v5 = .int .i64 x5_1 ∧ v11 = .int .i64 x11_1 ∧ Aside0 (impl_Rule_sum.l0 kq l1 x5_1 l0_1 (l0_1.length : Int) x11_1 a0_0 l0_1 l0_2 = some r) ∧ Aside0 (kq ≤ k) ∧ Aside0 (w'.heap[gb253]? = some (.cells #[.int .i64 a0_0, (.slice A0_1 l0_1.length c0_1), (.slice A0_2 l0_2.length c0_2)] 26 (0, 0))) ∧ Aside0 (Below w.heap.size w w'))
 case atStart => exact ⟨(0), (0), (by first | rfl | (simp; done) | (simp [*]; done)), (by first | rfl | (simp; done) | (simp [*]; done)), H', ⟨Nat.le_refl _⟩, ⟨uB BK253.out⟩, ⟨uH HB.out⟩⟩
 case round =>
  clear H'
  try clear c1
  try clear p2
  try clear hcz4_0
  try clear hcz4_1
  try clear hcz4_2
  try clear hfz4_0
  try clear hfz4_1
  try clear hfz4_2
  obtain ⟨x5_1, x11_1, rfl, rfl, HA, HK1, BK253, HB⟩ := hrel
  cases gk with
  | zero => exact absurd HA.out (by simp [impl_Rule_sum.l0])
  | succ k1 =>
   have H := HA.out
   clear HA
   simp only [impl_Rule_sum.l0] at H
   by_cases c5 : x11_1 < (l0_1.length : Int)
   ·rw [if_pos c5] at H
    have c5b0 : decide (x11_1 < (l0_1.length : Int)) = true := decide_eq_true c5
    clear c5
    by_cases c6 : 0 ≤ x11_1
    ·rw [if_pos c6] at H
     have c6b0 : decide (0 ≤ x11_1) = true := decide_eq_true c6
     clear c6
     by_cases c7 : x11_1 < (l0_1.length : Int)
     ·rw [if_pos c7] at H
      have c7b0 : decide (x11_1 < (l0_1.length : Int)) = true := decide_eq_true c7
      clear c7
      replace H := Option.bind_eq_some_iff.mp H
      obtain ⟨t255, A80, H⟩ := H
      replace H : (if x11_1 < (l0_2.length : Int) then ((impl_Rule_field.f a0_0 l0_1 l0_2).bind fun t257 => ((impl_field_value.f t257 l1 (rd l0_1 x11_1)).bind fun t258 => ((impl_field_mod.f t255 (wrap64 (x5_1 + (wrap64 ((rd l0_2 x11_1) * t258))))).bind fun t259 => (impl_Rule_sum.l0 k1 l1 t259 l0_1 (l0_1.length : Int) (wrap64 (x11_1 + 1)) a0_0 l0_1 l0_2)))) else (none)) = some r := H
      have A8 := zA A80
      clear A80
      by_cases c9 : x11_1 < (l0_2.length : Int)
      ·rw [if_pos c9] at H
       have c9b0 : decide (x11_1 < (l0_2.length : Int)) = true := decide_eq_true c9
       clear c9
       replace H := Option.bind_eq_some_iff.mp H
       obtain ⟨t257, A100, H⟩ := H
       replace H : ((impl_field_value.f t257 l1 (rd l0_1 x11_1)).bind fun t258 => ((impl_field_mod.f t255 (wrap64 (x5_1 + (wrap64 ((rd l0_2 x11_1) * t258))))).bind fun t259 => (impl_Rule_sum.l0 k1 l1 t259 l0_1 (l0_1.length : Int) (wrap64 (x11_1 + 1)) a0_0 l0_1 l0_2))) = some r := H
       have A10 := zA A100
       clear A100
       replace H := Option.bind_eq_some_iff.mp H
       obtain ⟨t258, A110, H⟩ := H
       replace H : ((impl_field_mod.f t255 (wrap64 (x5_1 + (wrap64 ((rd l0_2 x11_1) * t258))))).bind fun t259 => (impl_Rule_sum.l0 k1 l1 t259 l0_1 (l0_1.length : Int) (wrap64 (x11_1 + 1)) a0_0 l0_1 l0_2)) = some r := H
       have A11 := zA A110
       clear A110
       replace H := Option.bind_eq_some_iff.mp H
       obtain ⟨t259, A120, H⟩ := H
       replace H : (impl_Rule_sum.l0 k1 l1 t259 l0_1 (l0_1.length : Int) (wrap64 (x11_1 + 1)) a0_0 l0_1 l0_2) = some r := H
       have A12 := zA A120
       clear A120
       have H' := zA H
       clear H
       have p254 : 0 ≤ (x11_1 : Int) := of_decide_eq_true (by first | (with_reducible assumption) | assumption)
       have q254 : x11_1 < (l0_1.length : Int) := of_decide_eq_true (by first | (with_reducible assumption) | assumption)
       obtain ⟨ad254, e254, hx254_0⟩ := Kd.at_int HR0_1.out x11_1 p254 q254
       cases e254
       replace hx254_0 := (HB.out.cell (World.block_lt_of_cell? w _ hx254_0)).trans hx254_0
       replace p254 := eq_true p254
       replace q254 := eq_true q254
       try go_wp2
       have n0_ := zA (blk_drew BK253.out)
       have n1_ := zA (below_drew1 HB.out)
       clear BK253 HB
       have BK253 := n0_; have HB := n1_
       clear n0_ n1_
       have p256 : 0 ≤ (x11_1 : Int) := of_decide_eq_true (by first | (with_reducible assumption) | assumption)
       have q256 : x11_1 < (l0_2.length : Int) := of_decide_eq_true (by first | (with_reducible assumption) | assumption)
       obtain ⟨ad256, e256, hx256_0⟩ := Kd.at_int HR0_2.out x11_1 p256 q256
       have hw256_0 := hx256_0
       cases e256
       replace hx256_0 := (HB.out.cell (World.block_lt_of_cell? w _ hx256_0)).trans hx256_0
       replace p256 := eq_true p256
       replace q256 := eq_true q256
       refine start_ (n := 17) (S := fun w' => w'.cell? ⟨gb253, 0, none⟩ = some (.int .i64 a0_0) ∧ w'.cell? ⟨gb253, 1, none⟩ = some (.slice (some ad254) l0_1.length c0_1) ∧ w'.cell? ⟨gb253, 2, none⟩ = some (.slice (some ad256) l0_2.length c0_2) ∧ w'.cell? (ad256.add (x11_1).toNat) = some (.int .i64 (rd l0_2 x11_1))) (ds := []) #[false, false, false, false, false, false, false, false, false, false, false, false, false, false, false, false, false] (by kernel_rfl) rfl rfl ⟨(blk_cell BK253.out 0).trans rfl, (blk_cell BK253.out 1).trans rfl, (blk_cell BK253.out 2).trans rfl, ((HB.out.cell (World.block_lt_of_cell? w _ hw256_0)).trans hw256_0)⟩ (fun hHeld => ?_); refine with_tabW impl_Rule_sum.tab5 impl_Rule_sum.bits5 (fun HT_ HW_ => ?_)
       generalize wr.drew = w13 at BK253 HB hx256_0 hHeld ⊢
       refine pure_ (i := 2) (N := some 18) (v := ?_) (a' := ?_) #[false, false, true, false, false, false, false, false, false, false, false, false, false, false, false, false, false] rfl rfl (any_of HT_.out (by kernel_rfl)) (fun _ _ _ h => h) (Or.inl ⟨by rfl, ?_⟩) ?_ ?_
       rotate_left
       ·intro w'
        go_simp
        with_reducible rfl
       rotate_left
       ·simp only [Act.put, ls, lz, ln, i64_w, i32_w]
        rfl
       refine pure_ (i := 3) (N := some 19) (v := ?_) (a' := ?_) #[false, false, true, true, false, false, false, false, false, false, false, false, false, false, false, false, false] rfl rfl (any_of HT_.out (by kernel_rfl)) (fun _ _ _ h => h) (Or.inl ⟨by rfl, ?_⟩) ?_ ?_
       rotate_left
       ·intro w'
        go_simp
        with_reducible rfl
       rotate_left
       ·simp only [Act.put, ls, lz, ln, i64_w, i32_w]
        rfl
       refine pure_ (i := 5) (N := some 21) (v := ?_) (a' := ?_) #[false, false, true, true, false, true, false, false, false, false, false, false, false, false, false, false, false] rfl rfl (any_of HT_.out (by kernel_rfl)) (fun _ _ _ h => h) (Or.inl ⟨by rfl, ?_⟩) ?_ ?_
       rotate_left
       ·intro w'
        go_simp
        with_reducible rfl
       rotate_left
       ·simp only [Act.put, ls, lz, ln, i64_w, i32_w]
        rfl
       refine pure_ (i := 10) (N := some 26) (v := ?_) (a' := ?_) #[false, false, true, true, false, true, false, false, false, false, true, false, false, false, false, false, false] rfl rfl (any_of HT_.out (by kernel_rfl)) (fun _ _ _ h => h) (Or.inl ⟨by rfl, ?_⟩) ?_ ?_
       rotate_left
       ·intro w'
        go_simp
        with_reducible rfl
       rotate_left
       ·simp only [Act.put, ls, lz, ln, i64_w, i32_w]
        rfl
       refine pure_ (i := 11) (N := some 27) (v := ?_) (a' := ?_) #[false, false, true, true, false, true, false, false, false, false, true, true, false, false, false, false, false] rfl rfl (any_of HT_.out (by kernel_rfl)) (fun _ _ _ h => h) (Or.inl ⟨by rfl, ?_⟩) ?_ ?_
       rotate_left
       ·intro w'
        go_simp
        with_reducible rfl
       rotate_left
       ·simp only [Act.put, ls, lz, ln, i64_w, i32_w]
        rfl
       refine take_ (i := 0) (N := some 16) (v := ?_) (a' := ?_) #[true, false, true, true, false, true, false, false, false, false, true, true, false, false, false, false, false] rfl rfl (take_ofW HT_.out HW_.out (by kernel_rfl)) (fun _ _ _ h => h) (Or.inl ⟨by rfl, ?_⟩) hHeld ?_ ?_
       rotate_left
       ·rintro w' ⟨s0, s1, s2, s3⟩
        go_simp
        with_reducible rfl
       rotate_left
       ·simp only [Act.put, ls, lz, ln, i64_w, i32_w]
        rfl
       refine take_ (i := 4) (N := some 20) (v := ?_) (a' := ?_) #[true, false, true, true, true, true, false, false, false, false, true, true, false, false, false, false, false] rfl rfl (take_ofW HT_.out HW_.out (by kernel_rfl)) (fun _ _ _ h => h) (Or.inl ⟨by rfl, ?_⟩) hHeld ?_ ?_
       rotate_left
       ·rintro w' ⟨s0, s1, s2, s3⟩
        go_simp
        with_reducible rfl
       rotate_left
       ·simp only [Act.put, ls, lz, ln, i64_w, i32_w]
        rfl
       refine pure_ (i := 6) (N := some 22) (v := ?_) (a' := ?_) #[true, false, true, true, true, true, true, false, false, false, true, true, false, false, false, false, false] rfl rfl (any_of HT_.out (by kernel_rfl)) (fun _ _ _ h => h) (Or.inl ⟨by rfl, ?_⟩) ?_ ?_
       rotate_left
       ·intro w'
        go_simp
        with_reducible rfl
       rotate_left
       ·simp only [Act.put, ls, lz, ln, i64_w, i32_w]
        rfl
       refine take_ (i := 7) (N := some 23) (v := ?_) (a' := ?_) #[true, false, true, true, true, true, true, true, false, false, true, true, false, false, false, false, false] rfl rfl (take_ofW HT_.out HW_.out (by kernel_rfl)) (fun _ _ _ h => h) (Or.inl ⟨by rfl, ?_⟩) hHeld ?_ ?_
       rotate_left
       ·rintro w' ⟨s0, s1, s2, s3⟩
        go_simp
        with_reducible rfl
       rotate_left
       ·simp only [Act.put, ls, lz, ln, i64_w, i32_w]
        rfl
       refine take_ (i := 8) (N := some 24) (v := ?_) (a' := ?_) #[true, false, true, true, true, true, true, true, true, false, true, true, false, false, false, false, false] rfl rfl (take_ofW HT_.out HW_.out (by kernel_rfl)) (fun _ _ _ h => h) (Or.inl ⟨by rfl, ?_⟩) hHeld ?_ ?_
       rotate_left
       ·rintro w' ⟨s0, s1, s2, s3⟩
        go_simp
        with_reducible rfl
       rotate_left
       ·simp only [Act.put, ls, lz, ln, i64_w, i32_w]
        rfl
       refine one_ (i := 1) (N := some 17) #[true, true, true, true, true, true, true, true, true, false, true, true, false, false, false, false, false] rfl rfl (one_of HT_.out (by kernel_rfl)) (by decide) (fun K hK => ?_)
       refine goes_ Try.func59 (by kernel_rfl) rfl #[.agg #[.int .i64 a0_0, .slice (some ad254) l0_1.length c0_1, .slice (some ad256) l0_2.length c0_2]] (by rfl) rfl rfl (by (try simp only [la, lb, lc]); first | done | rfl | (simp only [ld, le]; rfl)) ?_
       with_reducible refine (impl_Rule_field.calls a0_0 _ _ l0_1 _ _ l0_2 t255 _ ?side1 ?side2 ?side3 ?side4 A8.out).mono ?_
       (case side1 => exact uC ((Kd.C_below HR0_1.out HB.out)))
       (case side2 => exact HC0_1.out)
       (case side3 => exact uC ((Kd.C_below HR0_2.out HB.out)))
       (case side4 => exact HC0_2.out)
       rintro e w14 ⟨rfl, hb⟩
       refine ⟨_, rfl, ?_⟩
       have n0_ := xB BK253 hb
       have n1_ := xH HB hb
       clear BK253 HB
       have BK253 := n0_; have HB := n1_
       clear n0_ n1_
       (try clear hb); (try clear hb2); (try clear hk); (try clear hi)
       refine hK.out _ _ ⟨(blk_cell BK253.out 0).trans rfl, (blk_cell BK253.out 1).trans rfl, (blk_cell BK253.out 2).trans rfl, ((HB.out.cell (World.block_lt_of_cell? w _ hw256_0)).trans hw256_0)⟩ (fun hHeld => ?_)
       clear hK K
       refine norm_ (a' := ?_) ?_ ?_
       rotate_left
       ·show Act.put _ (some 17) _ = _
        simp only [Act.put, ls, lz, ln, i64_w, i32_w]
        rfl
       refine one_ (i := 9) (N := some 25) #[true, true, true, true, true, true, true, true, true, true, true, true, false, false, false, false, false] rfl rfl (one_of HT_.out (by kernel_rfl)) (by decide) (fun K hK => ?_)
       refine goes_ Try.func59 (by kernel_rfl) rfl #[.agg #[.int .i64 a0_0, .slice (some ad254) l0_1.length c0_1, .slice (some ad256) l0_2.length c0_2]] (by rfl) rfl rfl (by (try simp only [la, lb, lc]); first | done | rfl | (simp only [ld, le]; rfl)) ?_
       with_reducible refine (impl_Rule_field.calls a0_0 _ _ l0_1 _ _ l0_2 t257 _ ?side1 ?side2 ?side3 ?side4 A10.out).mono ?_
       (case side1 => exact uC ((Kd.C_below HR0_1.out HB.out)))
       (case side2 => exact HC0_1.out)
       (case side3 => exact uC ((Kd.C_below HR0_2.out HB.out)))
       (case side4 => exact HC0_2.out)
       rintro e w15 ⟨rfl, hb⟩
       refine ⟨_, rfl, ?_⟩
       have n0_ := xB BK253 hb
       have n1_ := xH HB hb
       clear BK253 HB
       have BK253 := n0_; have HB := n1_
       clear n0_ n1_
       (try clear hb); (try clear hb2); (try clear hk); (try clear hi)
       refine hK.out _ _ ⟨(blk_cell BK253.out 0).trans rfl, (blk_cell BK253.out 1).trans rfl, (blk_cell BK253.out 2).trans rfl, ((HB.out.cell (World.block_lt_of_cell? w _ hw256_0)).trans hw256_0)⟩ (fun hHeld => ?_)
       clear hK K
       refine norm_ (a' := ?_) ?_ ?_
       rotate_left
       ·show Act.put _ (some 25) _ = _
        simp only [Act.put, ls, lz, ln, i64_w, i32_w]
        rfl
       refine one_ (i := 12) (N := some 28) #[true, true, true, true, true, true, true, true, true, true, true, true, true, false, false, false, false] rfl rfl (one_of HT_.out (by kernel_rfl)) (by decide) (fun K hK => ?_)
       refine goes_ Try.func103 (by kernel_rfl) rfl #[.int .i64 t257, .slice A1 l1.length c1, .int .i64 (rd l0_1 x11_1)] (by rfl) rfl rfl (by (try simp only [la, lb, lc]); first | done | rfl | (simp only [ld, le]; rfl)) ?_
       with_reducible refine (impl_field_value.calls t257 _ _ l1 (rd l0_1 x11_1) t258 _ ?side1 ?side2 A11.out).mono ?_
       (case side1 => exact uC ((Kd.C_below HR1.out HB.out)))
       (case side2 => exact HC1.out)
       rintro e w16 ⟨rfl, hb⟩
       refine ⟨_, rfl, ?_⟩
       have n0_ := xB BK253 hb
       have n1_ := xH HB hb
       clear BK253 HB
       have BK253 := n0_; have HB := n1_
       clear n0_ n1_
       (try clear hb); (try clear hb2); (try clear hk); (try clear hi)
       refine hK.out _ _ ⟨(blk_cell BK253.out 0).trans rfl, (blk_cell BK253.out 1).trans rfl, (blk_cell BK253.out 2).trans rfl, ((HB.out.cell (World.block_lt_of_cell? w _ hw256_0)).trans hw256_0)⟩ (fun hHeld => ?_)
       clear hK K
       refine norm_ (a' := ?_) ?_ ?_
       rotate_left
       ·show Act.put _ (some 28) _ = _
        simp only [Act.put, ls, lz, ln, i64_w, i32_w]
        rfl
       refine pure_ (i := 13) (N := some 29) (v := ?_) (a' := ?_) #[true, true, true, true, true, true, true, true, true, true, true, true, true, true, false, false, false] rfl rfl (any_of HT_.out (by kernel_rfl)) (fun _ _ _ h => h) (Or.inl ⟨by rfl, ?_⟩) ?_ ?_
       rotate_left
       ·intro w'
        go_simp
        with_reducible rfl
       rotate_left
       ·simp only [Act.put, ls, lz, ln, i64_w, i32_w]
        rfl
       refine pure_ (i := 14) (N := some 30) (v := ?_) (a' := ?_) #[true, true, true, true, true, true, true, true, true, true, true, true, true, true, true, false, false] rfl rfl (any_of HT_.out (by kernel_rfl)) (fun _ _ _ h => h) (Or.inl ⟨by rfl, ?_⟩) ?_ ?_
       rotate_left
       ·intro w'
        go_simp
        with_reducible rfl
       rotate_left
       ·simp only [Act.put, ls, lz, ln, i64_w, i32_w]
        rfl
       refine one_ (i := 15) (N := some 31) #[true, true, true, true, true, true, true, true, true, true, true, true, true, true, true, true, false] rfl rfl (one_of HT_.out (by kernel_rfl)) (by decide) (fun K hK => ?_)
       refine goes_ Try.func97 (by kernel_rfl) rfl #[.int .i64 t255, .int .i64 (wrap64 (x5_1 + (wrap64 ((rd l0_2 x11_1) * t258))))] (by rfl) rfl rfl (by (try simp only [la, lb, lc]); first | done | rfl | (simp only [ld, le]; rfl)) ?_
       with_reducible refine (impl_field_mod.calls t255 (wrap64 (x5_1 + (wrap64 ((rd l0_2 x11_1) * t258)))) t259 _ A12.out).mono ?_
       rintro e w' ⟨rfl, ⟨nd, rfl⟩⟩
       refine ⟨_, rfl, ?_⟩
       refine hK.out _ _ ⟨(blk_cell BK253.out 0).trans rfl, (blk_cell BK253.out 1).trans rfl, (blk_cell BK253.out 2).trans rfl, ((HB.out.cell (World.block_lt_of_cell? w _ hw256_0)).trans hw256_0)⟩ (fun hHeld => ?_)
       clear hK K
       refine norm_ (a' := ?_) ?_ ?_
       rotate_left
       ·show Act.put _ (some 31) _ = _
        simp only [Act.put, ls, lz, ln, i64_w, i32_w]
        rfl
       refine pure_ (i := 16) (N := some 5) (v := ?_) (a' := ?_) #[true, true, true, true, true, true, true, true, true, true, true, true, true, true, true, true, true] rfl rfl (any_of HT_.out (by kernel_rfl)) (fun _ _ _ h => h) (Or.inl ⟨by rfl, ?_⟩) ?_ ?_
       rotate_left
       ·intro w'
        go_simp
        with_reducible rfl
       rotate_left
       ·simp only [Act.put, ls, lz, ln, i64_w, i32_w]
        rfl
       refine done_ (done_of HT_.out (by kernel_rfl)) ?_
       try go_wp2
       go_roundg k1
       case measure => have := HK1.out; omega
       case rel => exact ⟨(t259), (wrap64 (x11_1 + 1)), (by first | rfl | (simp; done) | (simp [*]; done)), (by first | rfl | (simp; done) | (simp [*]; done)), H', ⟨by have := HK1.out; omega⟩, ⟨uB BK253.out⟩, ⟨uH HB.out⟩⟩
      ·rw [if_neg c9] at H
       exact absurd H (by simp)
     ·rw [if_neg c7] at H
      exact absurd H (by simp)
    ·rw [if_neg c6] at H
     exact absurd H (by simp)
   ·rw [if_neg c5] at H
    have c5b0 : decide (x11_1 < (l0_1.length : Int)) = false := decide_eq_false c5
    clear c5
    obtain rfl := Option.some.inj H
    go_wp2
    go_ret
    exact ⟨by first | rfl | (simp [errW_none, errW_some] <;> rfl) | (simp [*, errW_none, errW_some] <;> rfl), uH HB.out⟩

end Go.Proofs.Yteoipomgldioeaa.Pr
/- Values of polynomials: the program's and the reference's come to one number; no condition. -/
namespace Go.Proofs.Yteoipomgldioeaa.Pr
open Go.RowKit Go.Proofs.YteoipomgldioeaaW.PrintWords Go.Proofs.YteoipomgldioeaaW.PrintLast Go.Proofs.YteoipomgldioeaaW.PrintMore

/-- The first k numbers from behind taken in. -/
def valG (p x : Int) (l : List Int) : Nat → Int
  | 0 => 0
  | k + 1 => (valG p x l k * x + l.getD (l.length - 1 - k) 0) % p
theorem valG_in {p : Int} (hp : Pm p) (x : Int) (l : List Int) (k : Nat) : 0 ≤ valG p x l k ∧ valG p x l k < p := by
  cases k with
  | zero => exact ⟨Int.le_refl _, hp.pos⟩
  | succ k => exact emodB hp.pos _
def valF (p x : Int) (l : List Int) : Int := valG p x l l.length
theorem valF_in {p : Int} (hp : Pm p) (x : Int) (l : List Int) : 0 ≤ valF p x l ∧ valF p x l < p := valG_in hp x l _
theorem valStep_eq {p x o c : Int} (hp : Pm p) (hx : 0 ≤ x ∧ x < p) (ho : 0 ≤ o ∧ o < p) (hc : 0 ≤ c ∧ c < p) : valStep p x o c = (o * x + c) % p := by
  have h := mulP hp ho.1 ho.2 hx.1 hx.2
  have ht := hp.top
  unfold valStep
  rw [wrap_id (x := o * x) (by omega) (by omega), wrap_id (x := o * x + c) (by omega) (by omega), go_mod hp]
theorem valOf_upto {p x : Int} (hp : Pm p) (hx : 0 ≤ x ∧ x < p) (l : List Int) (hl : Nm p l) (k : Nat) (hk : k ≤ l.length) : valOf p x (upto (bk l l.length) k) = valG p x l k := by
  induction k with
  | zero => rfl
  | succ k ih =>
    have hg := hl.get (i := l.length - 1 - k) (by omega)
    have hv := valG_in hp x l k
    rw [upto_succ, valOf_snoc, ih (by omega), valG]
    have e : (bk l l.length k).2 = l.getD (l.length - 1 - k) 0 := by simp [bk, List.getD_eq_getElem?_getD]
    rw [e, valStep_eq hp hx hv hg]
theorem implValue_eq {p x : Int} (hp : Pm p) (hx : 0 ≤ x ∧ x < p) (l : List Int) (hl : Nm p l) (hs : Sm l.length) : impl_field_value.f p l x = some (valF p x l) := by
  unfold impl_field_value.f
  unfold Sm at hs
  rw [if_neg hp.ne, if_pos (by omega), valOf_upto hp hx l hl l.length (Nat.le_refl _)]; rfl
theorem specAt_l0 {p x : Int} (hp : Pm p) (hx : 0 ≤ x ∧ x < p) (l : List Int) (hl : Nm p l) (hs : Sm l.length) (d : Nat) : ∀ k, k + d = l.length →
    Ev (fun n => spec_l01At.l0 n p l x (valG p x l k) ((l.length : Int) - 1 - (k : Int))) (valF p x l) := by
  induction d with
  | zero =>
    intro k hk
    refine Ev.step (fun n => by rw [spec_l01At.l0]) ?_
    refine Ev.neg (by omega) (Ev.some' ?_)
    rw [show k = l.length from by omega]; rfl
  | succ d ih =>
    intro k hk
    have hv := valG_in hp x l k
    have hg := hl.get (i := l.length - 1 - k) (by omega)
    have h := mulP hp hv.1 hv.2 hx.1 hx.2
    have ht := hp.top
    unfold Sm at hs
    have er : rd l ((l.length : Int) - 1 - (k : Int)) = l.getD (l.length - 1 - k) 0 := by
      rw [show (l.length : Int) - 1 - (k : Int) = ((l.length - 1 - k : Nat) : Int) from by omega, rd_nat]
    have ew : wrap64 ((l.length : Int) - 1 - (k : Int) - 1) = (l.length : Int) - 1 - ((k + 1 : Nat) : Int) := by rw [wrap_id (by omega) (by omega)]; omega
    refine Ev.step (fun n => by rw [spec_l01At.l0]) ?_
    rw [er, ew]
    clear er ew
    refine Ev.pos (by omega) (Ev.pos (by omega) (Ev.pos (by omega) (Ev.neg hp.ne ?_)))
    rw [wrap_id (x := valG p x l k * x) (by omega) (by omega), wrap_id (by omega) (by omega), tmod_pos (by omega)]
    exact ih (k + 1) (by omega)
theorem specAt_ev {p x : Int} (hp : Pm p) (hx : 0 ≤ x ∧ x < p) (l : List Int) (hl : Nm p l) (hs : Sm l.length) : Ev (fun n => spec_l01At.f n p l x) (valF p x l) := by
  unfold spec_l01At.f
  have h := specAt_l0 hp hx l hl hs l.length 0 (by omega)
  have hs' := hs
  unfold Sm at hs'
  rw [wrap_id (x := (l.length : Int) - 1) (by omega) (by omega)]
  rw [show (l.length : Int) - 1 - ((0 : Nat) : Int) = (l.length : Int) - 1 from by omega] at h
  exact h
end Go.Proofs.Yteoipomgldioeaa.Pr
