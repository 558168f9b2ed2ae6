/- Texts of this session in one: what functions of the program compute, and plain facts of it, under the conditions that each theorem names. -/
import Derived.Test.YtokkabgkjhpecaaKC01
import Derived.Test.YtokkabgkjhpecaaKC02
import Derived.Test.YtokkabgkjhpecaaKC04
import Derived.Test.YtokkabgkjhpecaaWTab
/- Lists without noughts at their end; no condition. -/
namespace Go.Proofs.Ytokkabgkjhpecaa.Pr
open Go.RowKit Go.Proofs.YtokkabgkjhpecaaW.PrintWords Go.Proofs.YtokkabgkjhpecaaW.PrintLast Go.Proofs.YtokkabgkjhpecaaW.PrintMore

theorem smod_eq {p : Int} (hp : Pm p) (x : Int) : spec_l01Mod.f p x = some (x % p) := by
  unfold spec_l01Mod.f
  rw [if_neg hp.ne, go_mod hp]

/-! ### noughts at the end -/
theorem getD_snoc (l : List Int) (x : Int) (m : List Int) : ((l ++ [x]) ++ m).getD l.length 0 = x := by
  rw [List.append_assoc, List.getD_eq_getElem?_getD, List.getElem?_append_right (Nat.le_refl _), Nat.sub_self]; rfl
theorem implTrim_l0 (l : List Int) : Sm l.length → Ev (fun k => impl_trimmed.l0 k l) (trim l) := by
  induction l using snocInd with
  | h0 =>
    intro _
    refine Ev.step (fun k => by rw [impl_trimmed.l0]) ?_
    exact Ev.neg (by simp) (Ev.now _)
  | h1 l x ih =>
    intro hl
    have hn : (l ++ [x]).length = l.length + 1 := by simp
    rw [hn] at hl
    unfold Sm at hl
    have e : wrap64 (((l ++ [x]).length : Int) - 1) = (l.length : Int) := by rw [hn, wrap_id (by omega) (by omega)]; omega
    have er : rd (l ++ [x]) (l.length : Int) = x := by
      rw [rd_nat]; have := getD_snoc l x []; rwa [List.append_nil] at this
    refine Ev.step (fun k => by rw [impl_trimmed.l0]) ?_
    rw [e, er]
    refine Ev.pos (by omega) (Ev.pos (by omega) (Ev.pos (by omega) ?_))
    by_cases hx : x = 0
    · refine Ev.pos hx (Ev.pos (by omega) ?_)
      rw [toNat_nat, List.take_left, hx, trim_snoc_zero]
      exact ih (by unfold Sm; omega)
    · refine Ev.neg hx (Ev.some' ?_)
      rw [trim_snoc l hx]
theorem implTrim_ev (l : List Int) (hl : Sm l.length) : Ev (fun k => impl_trimmed.f k l) (trim l) := by
  unfold impl_trimmed.f
  exact implTrim_l0 l hl
theorem specTrim_l0 (l : List Int) : ∀ m : List Int, Sm (l ++ m).length → Ev (fun k => spec_l01Trim.l0 k (l ++ m) (l.length : Int)) (trim l) := by
  induction l using snocInd with
  | h0 =>
    intro m hl
    refine Ev.step (fun k => by rw [spec_l01Trim.l0]) ?_
    refine Ev.neg (by simp) (Ev.pos (by simp) (Ev.pos (by simp) (Ev.bindE (own_eq _ (hl.take _)) (Ev.some' ?_))))
    simp [trim_nil]
  | h1 l x ih =>
    intro m hl
    have hn : (l ++ [x]).length = l.length + 1 := by simp
    have hl' := hl
    rw [List.length_append, hn] at hl'
    have hm : (l ++ [x] ++ m).length = l.length + 1 + m.length := by rw [List.length_append, hn]
    unfold Sm at hl'
    have e : wrap64 (((l ++ [x]).length : Int) - 1) = (l.length : Int) := by rw [hn, wrap_id (by omega) (by omega)]; omega
    have er : rd ((l ++ [x]) ++ m) (l.length : Int) = x := by
      rw [rd_nat]; exact getD_snoc l x m
    refine Ev.step (fun k => by rw [spec_l01Trim.l0]) ?_
    rw [e, er]
    refine Ev.pos (by omega) (Ev.pos (by omega) (Ev.pos (by omega) ?_))
    by_cases hx : x = 0
    · refine Ev.pos hx ?_
      have := ih ([x] ++ m) (by rw [← List.append_assoc]; exact hl)
      rw [← List.append_assoc] at this
      rw [hx, trim_snoc_zero]
      rw [hx] at this
      exact this
    · refine Ev.neg hx (Ev.pos (by omega) (Ev.pos (by omega) (Ev.bindE (own_eq _ (hl.take _)) (Ev.some' ?_))))
      rw [toNat_nat, List.take_left, trim_snoc l hx]
theorem specTrim_ev (l : List Int) (hl : Sm l.length) : Ev (fun k => spec_l01Trim.f k l) (trim l) := by
  unfold spec_l01Trim.f
  have := specTrim_l0 l [] (by rw [List.append_nil]; exact hl)
  rwa [List.append_nil] at this
theorem trim_len (l : List Int) : (trim l).length ≤ l.length := by
  obtain ⟨n, h⟩ := trim_sub l
  have := congrArg List.length h
  rw [List.length_append] at this
  omega
theorem Nm.trim {p : Int} {l : List Int} (h : Nm p l) : Nm p (trim l) := by
  obtain ⟨n, e⟩ := trim_sub l
  intro x hx
  refine h x ?_
  rw [e]
  exact List.mem_append_left _ hx
end Go.Proofs.Ytokkabgkjhpecaa.Pr
/- Short steps of a walk through a region whose order is drawn (each stands for a row that the print spells out); no condition. -/
namespace Go.Proofs.Ytokkabgkjhpecaa.Pr
open Go Go.RowKit Go.Proofs.YtokkabgkjhpecaaW.PrintWords Go.Proofs.YtokkabgkjhpecaaW.PrintLast Go.Proofs.YtokkabgkjhpecaaW.PrintMore

/-- The lowest n bits of m. -/
def bq : Nat → Nat → List Bool
  | 0, _ => []
  | n + 1, m => (m % 2 == 1) :: bq n (m / 2)
def bl (n m : Nat) : Array Bool := ⟨bq n m⟩
section
variable {P : Program} {ops : Array Oper} {Q : Exit → Act → World → Prop} {S : World → Prop} {ds : List Nat} {T : Bool × List (List Nat × List Nat)} {B : List Nat} {fuel : Nat} {l : Array Bool} {a a' : Act} {w : World} {oi : Oper} {v : Value}
theorem pu_ (i : Nat) (N : Tmp) (l' : Array Bool) (HT : Aside0 (rtab .any ops = T)) (h : wpAnyLast P .any ops Q S ds fuel l' a' w)
    (hi : ops[i]? = some oi := by rfl) (hN : oi.dst = some N := by rfl) (hc : anyT T l.toList l'.toList i = true := by kernel_rfl)
    (hQ : ∀ c a w, Q (.panic c) (a.put oi.dst v) w → Q (.panic c) a w := by exact fun _ _ _ h => h)
    (hy : Yields P ops oi v a := by exact Or.inl ⟨by rfl, by intro w'; go_simp; with_reducible rfl⟩)
    (ha : a.put (some N) v = a' := by (simp only [Act.put, ls, lz, ln, i64_w, i32_w]; rfl)) : wpAnyLast P .any ops Q S ds (fuel + 1) l a w :=
  pure_ l' hi hN (any_of HT.out hc) hQ hy ha h
theorem un_ (i : Nat) (N : Tmp) (l' : Array Bool) (HT : Aside0 (rtab .any ops = T)) (h : wpAnyLast P .any ops Q S ds fuel l' a' w)
    (hi : ops[i]? = some oi := by rfl) (hN : oi.dst = some N := by rfl) (hc : anyT T l.toList l'.toList i = true := by kernel_rfl)
    (hQ : ∀ c a w, Q (.panic c) (a.put oi.dst undef) w → Q (.panic c) a w := by exact fun _ _ _ h => h)
    (hy : Yields P ops oi undef a := by exact Or.inr ⟨by rfl, rfl⟩)
    (ha : a.put (some N) undef = a' := by (simp only [Act.put, ls, lz, ln, i64_w, i32_w]; rfl)) : wpAnyLast P .any ops Q S ds (fuel + 1) l a w :=
  pure_ l' hi hN (any_of HT.out hc) hQ hy ha h
theorem ta_ (i : Nat) (N : Tmp) (l' : Array Bool) (HT : Aside0 (rtab .any ops = T)) (HW : Aside0 (waitsOk T.2 B = true)) (hS : S w) (h : wpAnyLast P .any ops Q S ds fuel l' a' w)
    (hi : ops[i]? = some oi := by rfl) (hN : oi.dst = some N := by rfl) (hc : takeW T B ds l.toList l'.toList i = true := by kernel_rfl)
    (hQ : ∀ c a w, Q (.panic c) (a.put oi.dst v) w → Q (.panic c) a w := by exact fun _ _ _ h => h)
    (hy : YieldsIf P ops S oi v a := by exact Or.inl ⟨by rfl, by intro w' hs; go_simp; with_reducible rfl⟩)
    (ha : a.put (some N) v = a' := by (simp only [Act.put, ls, lz, ln, i64_w, i32_w]; rfl)) : wpAnyLast P .any ops Q S ds (fuel + 1) l a w :=
  take_ l' hi hN (take_ofW HT.out HW.out hc) hQ hy hS ha h
theorem on_ (i : Nat) (N : Option Tmp) (l' : Array Bool) (HT : Aside0 (rtab .any ops = T))
    (h : ∀ K : Act → World → Prop, Shut (∀ a' w', S w' → (S w' → wpAnyLast P .any ops Q S ds fuel l' a' w') → K a' w') → if Region.wanted oi (yielded ops a.tmps) = true then Oper.wp P oi a w K Q else K (a.put N undef) w)
    (hi : ops[i]? = some oi := by rfl) (hN : oi.dst = N := by rfl) (hc : (readyT T.2 l.toList == [i] && l.toList.set i true == l'.toList) = true := by kernel_rfl) (hd : i ∉ ds := by decide) : wpAnyLast P .any ops Q S ds (fuel + 1) l a w :=
  one_ l' hi hN (one_of HT.out hc) hd h
theorem no_ {a0 : Act} (N : Tmp) (h : wpAnyLast P .any ops Q S ds fuel l a' w) (ha : a0.put (some N) v = a' := by (simp only [Act.put, ls, lz, ln, i64_w, i32_w]; rfl)) : wpAnyLast P .any ops Q S ds fuel l (a0.put (some N) v) w := norm_ ha h
end
end Go.Proofs.Ytokkabgkjhpecaa.Pr
/- Printed by a program of this session out of the translation: what these functions of the program compute, under the conditions that each theorem names. -/
namespace Go.Proofs.Ytokkabgkjhpecaa.Pr
open Go.RowKit Go.Proofs.YtokkabgkjhpecaaW.PrintWords Go.Proofs.YtokkabgkjhpecaaW.PrintLast Go.Proofs.YtokkabgkjhpecaaW.PrintMore
attribute [local go_sem] max2_int min2_int max_two min_two max_three min_three max_four min_four   -- for this text's walks alone
set_option linter.unusedVariables false
set_option linter.unusedSimpArgs false

/-! ### impl_Jacobi_associated: function 111 -/
def impl_Jacobi_associated.l0 : Nat → List (List Int) → Int → Int → List Int → List Int → Option ((List (List Int)))
 | 0, _, _, _, _, _ => none
 | k + 1, x3, x4, x652000, x652001, x652002 => if x4 < (x652001.length : Int) then ((impl_Jacobi_field.f x652000 x652001 x652002).bind fun t658 => (if 0 ≤ x4 then (if x4 < (x652002.length : Int) then (if x4 < (x3.length : Int) then (if 0 ≤ (wrap64 (x4 - 1)) then (if (wrap64 (x4 - 1)) < (x3.length : Int) then ((impl_field_next.f k t658 (rd x652001 x4) (rd x652002 x4) (rd_L1 x3 x4) (rd_L1 x3 (wrap64 (x4 - 1)))).bind fun t663 => (if x3.length < 5864062014805 then (impl_Jacobi_associated.l0 k (x3 ++ [t663]) (wrap64 (x4 + 1)) x652000 x652001 x652002) else (none))) else (none)) else (none)) else (none)) else (none)) else (none))) else (some x3)
def impl_Jacobi_associated.f (k : Nat) (a0_0 : Int) (l0_1 : List Int) (l0_2 : List Int) : Option ((List (List Int))) := impl_Jacobi_associated.l0 k (([[], (([1] : List Int))] : List (List Int))) 1 a0_0 l0_1 l0_2
theorem impl_Jacobi_associated.mono_l : ∀ k, (∀ y0 y1 y2 y3 y4, LeO (impl_Jacobi_associated.l0 k y0 y1 y2 y3 y4) (impl_Jacobi_associated.l0 (k + 1) y0 y1 y2 y3 y4))
 | 0 => fun _ _ _ _ _ r h => by simp [impl_Jacobi_associated.l0] at h
 | k + 1 => by
  have ih0 := impl_Jacobi_associated.mono_l k
  ·intro y0 y1 y2 y3 y4
   unfold impl_Jacobi_associated.l0
   repeat' first
   | (with_reducible exact ih0 _ _ _ _ _)
   | (with_reducible exact impl_field_next.mono _ _ _ _ _ _)
   | (with_reducible exact LeO.refl _)
   | (with_reducible exact LeO.none _)
   | (with_reducible refine LeO.ite ?_ ?_)
   | (with_reducible refine LeO.bind ?_ (fun _ => ?_))
   | exact ih0 _ _ _ _ _
   | exact impl_field_next.mono _ _ _ _ _ _
   | exact LeO.none _
   | refine LeO.ite ?_ ?_
   | refine LeO.bind ?_ (fun _ => ?_)
theorem impl_Jacobi_associated.mono : ∀ a0 a1 a2 k, LeO (impl_Jacobi_associated.f k a0 a1 a2) (impl_Jacobi_associated.f (k + 1) a0 a1 a2) := by
 intro a0 a1 a2 k
 have ih0 := impl_Jacobi_associated.mono_l k
 unfold impl_Jacobi_associated.f
 repeat' first
   | (with_reducible exact ih0 _ _ _ _ _)
   | (with_reducible exact impl_field_next.mono _ _ _ _ _ _)
   | (with_reducible exact LeO.refl _)
   | (with_reducible exact LeO.none _)
   | (with_reducible refine LeO.ite ?_ ?_)
   | (with_reducible refine LeO.bind ?_ (fun _ => ?_))
   | exact ih0 _ _ _ _ _
   | exact impl_field_next.mono _ _ _ _ _ _
   | exact LeO.none _
   | refine LeO.ite ?_ ?_
   | refine LeO.bind ?_ (fun _ => ?_)
def impl_Jacobi_associated.T5 : Bool × List (List Nat × List Nat) := (true, [([], []), ([], []), ([1], [1]), ([], []), ([3], [3]), ([], []), ([4, 5], [4, 5]), ([6], [6]), ([], []), ([8], [8]), ([], []), ([9, 10], [9, 10]), ([11], [11]), ([], []), ([], []), ([13, 14], [13, 14]), ([15], [15]), ([], []), ([], []), ([18], [18]), ([17, 19], [17, 19]), ([20], [20]), ([2, 7, 12, 16, 21, 2], [2, 7, 12, 16, 21]), ([22], [22]), ([0, 23, 22], [0, 23]), ([24, 24, 0, 1, 2, 3, 4, 5, 6, 7, 8, 9, 10, 11, 12, 13, 14, 15, 16, 17, 18, 19, 20, 21, 22, 23, 24], [0, 13, 17, 24])])
def impl_Jacobi_associated.B5 : List Nat := [0, 0, 2, 0, 8, 0, 56, 120, 0, 256, 0, 1792, 3840, 0, 0, 24576, 57344, 0, 0, 262144, 917504, 1966080, 4194302, 8388606, 16777215, 33554431]
theorem impl_Jacobi_associated.tab5 : rtab .any (opsOf Try.f111 5) = impl_Jacobi_associated.T5 := by kernel_rfl
theorem impl_Jacobi_associated.bits5 : waitsOk impl_Jacobi_associated.T5.2 impl_Jacobi_associated.B5 = true := by kernel_rfl
set_option maxHeartbeats 8000000 in
set_option maxRecDepth 100000 in
theorem impl_Jacobi_associated.calls (k : Nat) (a0_0 : Int) (A0_1 : Option Addr) (c0_1 : Nat) (l0_1 : List Int) (A0_2 : Option Addr) (c0_2 : Nat) (l0_2 : List Int) (r : List (List Int)) (w : World) (hr0_1 : Kd.C (Kd.int .i64) w A0_1 l0_1.length l0_1) (hc0_1 : l0_1.length ≤ c0_1) (hr0_2 : Kd.C (Kd.int .i64) w A0_2 l0_2.length l0_2) (hc0_2 : l0_2.length ≤ c0_2) (h : impl_Jacobi_associated.f k a0_0 l0_1 l0_2 = some r) :
  Calls Try.prog 111 #[.agg #[.int .i64 a0_0, .slice A0_1 l0_1.length c0_1, .slice A0_2 l0_2.length c0_2]] w fun e w' => ∃ v0_ : Value, e = .returned (v0_) ∧ Kd.N (Kd.slice 2 (Kd.int .i64)) 22 w' w.heap.size (fun k_ => (w.heap.size ≤ k_)) v0_ r ∧ Below w.heap.size w w' := by
 have hu46 := Try.underlying46
 have HR0_1 := zA hr0_1
 have HC0_1 := zA hc0_1
 clear hr0_1 hc0_1
 have HR0_2 := zA hr0_2
 have HC0_2 := zA hc0_2
 clear hr0_2 hc0_2
 have HB := zA (Below.refl w.heap.size w)
 have H : (impl_Jacobi_associated.l0 k (([[], (([1] : List Int))] : List (List Int))) 1 a0_0 l0_1 l0_2) = some r := h
 clear h
 obtain ⟨y652, hy652⟩ : ∃ y_ : List Int, y_ = (([1] : List Int)) := ⟨_, rfl⟩
 replace H : (impl_Jacobi_associated.l0 k (([[], y652] : List (List Int))) 1 a0_0 l0_1 l0_2) = some r := by first | (rw [hy652]; with_reducible exact H) | (have H2_ := (Option.bind_some _ _).symm.trans H; rw [hy652]; with_reducible exact H2_) | (have H2_ := (Option.bind_some _ _).symm.trans H; with_reducible exact H2_) | with_reducible exact H | (rw [hy652]; exact H) | exact H
 have Ny652 := zA hy652
 clear hy652
 obtain ⟨y655, hy655⟩ : ∃ y_ : List (List Int), y_ = (([[], y652] : List (List Int))) := ⟨_, rfl⟩
 replace H : (impl_Jacobi_associated.l0 k y655 1 a0_0 l0_1 l0_2) = some r := by first | (rw [hy655]; with_reducible exact H) | (have H2_ := (Option.bind_some _ _).symm.trans H; rw [hy655]; with_reducible exact H2_) | (have H2_ := (Option.bind_some _ _).symm.trans H; with_reducible exact H2_) | with_reducible exact H | (rw [hy655]; exact H) | exact H
 have Ny655 := zA hy655
 clear hy655
 have H' := zA H
 clear H
 go_enter Try.func111, Try.ntmps111
 go_wp2_with (first | ((with_reducible refine gate_dst (N := 1) rfl ?_); refine box_event ?hg (N := 1) ?hd (cs := #[.int .i64 a0_0, .slice A0_1 l0_1.length c0_1, .slice A0_2 l0_2.length c0_2]) (t := 46) ?hr ?_; (case hd => rfl); (case hg => rfl); (case hr => first | (go_simp; done) | (go_simp; rfl)); intro gb651 hg w2 hbox hb; have n0_ := xH HB hb; have n1_ := zA (hbox); have n2_ := zA ((by rw [hg]; exact (below_size (uH HB.out)) : w.heap.size ≤ gb651)); have n3_ := zA ((by rw [hg]; exact (below_size (uH HB.out)) : w.heap.size ≤ gb651)); clear HB; have HB := n0_; have BK651 := n1_; have GW651 := n2_; have GE651 := n3_; have := geI GE651; clear n0_ n1_ n2_ n3_ hb hbox hg) | ((with_reducible refine gate_dst (N := 5) rfl ?_); refine Kd.R_lit (Kd.int .i64) _ 2 ?hg (N := 5) ?hd (xs := ([1] : List Int)) (inner := [.int .i64 1]) (ok := fun _ => True) (okp := fun _ => True) ?hr ?hp (fun _ hk => hk) trivial (Below.refl _ _) (Nat.le_refl _) (by simp) ?_; (case hd => rfl); (case hg => rfl); (case hr => first | (go_simp; done) | (go_simp; rfl)); (case hp => exact (Reps.one (show Kd.M (Kd.int .i64) _ _ _ 1 [.int .i64 1] from rfl) (Reps.none _ _))); intro v653 w3 ho4 hb hg_ hnew_; clear hg_ hnew_; (first | rw [← Ny652.out] at ho4 | (simp only [Int.reduceToNat] at ho4; rw [← Ny652.out] at ho4)); have n0_ := zA (Kd.R_lower (Kd.R_newM (M := fun k_ => (w.heap.size ≤ k_)) ho4 (below_size (uH HB.out)) (fun k_ h_ => h_)) (below_size (uH HB.out))); have n1_ := xB BK651 hb; have n2_ := xH HB hb; clear BK651 HB; have HO654 := n0_; have BK651 := n1_; have HB := n2_; clear n0_ n1_ n2_ hb ho4; obtain ⟨Ao5, co5, eo5⟩ := Kd.R_slice HO654.out; subst eo5) | ((with_reducible refine gate_dst (N := 6) rfl ?_); refine Kd.N_lit (Kd.slice 2 (Kd.int .i64)) _ 22 ?hg (N' := 6) ?hd (xs := ([[], y652] : List (List Int))) (inner := [.slice none 0 0, .slice Ao5 y652.length co5]) (ok := (fun k_ => (w.heap.size ≤ k_) ∧ k_ ≠ gb651)) (okp := (fun k_ => (w.heap.size ≤ k_) ∧ k_ ≠ gb651)) ?hr ?hp (fun _ hk => hk) ((show ∀ k_, w3.heap.size ≤ k_ → (fun k_ => (w.heap.size ≤ k_) ∧ k_ ≠ gb651) k_ from fun k_ hk => ⟨(Nat.le_trans (below_size (uH HB.out)) hk), Kd.freshB (g := gb651) (o := .cells #[.int .i64 a0_0, .slice A0_1 l0_1.length c0_1, .slice A0_2 l0_2.length c0_2] 46 (0, 0)) (uB BK651.out) k_ hk⟩) _ (Nat.le_refl _)) (Below.refl _ _) (Nat.le_refl _) (by simp) ?_; (case hd => rfl); (case hg => rfl); (case hr => first | (go_simp; done) | (go_simp; rfl)); (case hp => exact (Reps.one (show Kd.FK (Kd.slice 2 (Kd.int .i64)) _ _ [] [.slice none 0 0] from (Kd.FK_slice_mk (Nat.le_refl _) (Kd.F_nil _ _ _))) (Reps.one (show Kd.FK (Kd.slice 2 (Kd.int .i64)) _ _ y652 [.slice Ao5 y652.length co5] from (Kd.FK_slice_mk (Kd.R_reads' (Kd.R_mono (ok' := (fun k_ => (w.heap.size ≤ k_) ∧ k_ ≠ gb651)) (Kd.R_types (HO654.out) BK651.out (by decide)) (fun k_ hk => ⟨hk.1.1, hk.2⟩))).2.1 (Kd.R_F (Kd.R_mono (ok' := (fun k_ => (w.heap.size ≤ k_) ∧ k_ ≠ gb651)) (Kd.R_types (HO654.out) BK651.out (by decide)) (fun k_ hk => ⟨hk.1.1, hk.2⟩))))) (Reps.none _ _)))); intro v656 w6 ho7 hb hg_ hnew_; clear hg_ hnew_; (first | rw [← Ny655.out] at ho7 | (simp only [Int.reduceToNat] at ho7; rw [← Ny655.out] at ho7)); have n0_ := zA (Kd.N_lower ho7 (below_size (uH HB.out))); have n1_ := xB BK651 hb; have n2_ := xH HB hb; clear BK651 HB HO654; have HO657 := n0_; have BK651 := n1_; have HB := n2_; clear n0_ n1_ n2_ hb ho7))
 go_loopg [3, 4] k (fun kq v3 v4 w' => ∃ (x3_1 : List (List Int)) (x4_1 : Int), v4 = .int .i64 x4_1 ∧ Aside0 (impl_Jacobi_associated.l0 kq x3_1 x4_1 a0_0 l0_1 l0_2 = some r) ∧ Aside0 (kq ≤ k) ∧ Aside0 (Kd.N (Kd.slice 2 (Kd.int .i64)) 22 w' w.heap.size (fun k_ => (w.heap.size ≤ k_) ∧ k_ ≠ gb651) v3 x3_1) ∧ Aside0 (w'.heap[gb651]? = some (.cells #[.int .i64 a0_0, (.slice A0_1 l0_1.length c0_1), (.slice A0_2 l0_2.length c0_2)] 46 (0, 0))) ∧ Aside0 (Below w.heap.size w w'))
 case atStart => exact ⟨(y655), (1), (by first | rfl | (simp; done) | (simp [*]; done)), H', ⟨Nat.le_refl _⟩, ⟨by (with_reducible repeat (first | apply Kd.N_alloc | apply Kd.N_drewN | apply Kd.N_drew)); exact HO657.out⟩, ⟨uB BK651.out⟩, ⟨uH HB.out⟩⟩
 case round =>
  clear H'
  try clear c1
  try clear p2
  obtain ⟨x3_1, x4_1, rfl, HA, HK1, HO_3, BK651, HB⟩ := hrel
  cases gk with
  | zero => exact absurd HA.out (by simp [impl_Jacobi_associated.l0])
  | succ k1 =>
   have H := HA.out
   clear HA
   simp only [impl_Jacobi_associated.l0] at H
   by_cases c8 : x4_1 < (l0_1.length : Int)
   ·rw [if_pos c8] at H
    have c8b0 : decide (x4_1 < (l0_1.length : Int)) = true := decide_eq_true c8
    clear c8
    replace H := Option.bind_eq_some_iff.mp H
    obtain ⟨t658, A90, H⟩ := H
    replace H : (if 0 ≤ x4_1 then (if x4_1 < (l0_2.length : Int) then (if x4_1 < (x3_1.length : Int) then (if 0 ≤ (wrap64 (x4_1 - 1)) then (if (wrap64 (x4_1 - 1)) < (x3_1.length : Int) then ((impl_field_next.f k1 t658 (rd l0_1 x4_1) (rd l0_2 x4_1) (rd_L1 x3_1 x4_1) (rd_L1 x3_1 (wrap64 (x4_1 - 1)))).bind fun t663 => (if x3_1.length < 5864062014805 then (impl_Jacobi_associated.l0 k1 (x3_1 ++ [t663]) (wrap64 (x4_1 + 1)) a0_0 l0_1 l0_2) else (none))) else (none)) else (none)) else (none)) else (none)) else (none)) = some r := H
    have A9 := zA A90
    clear A90
    by_cases c10 : 0 ≤ x4_1
    ·rw [if_pos c10] at H
     have c10b0 : decide (0 ≤ x4_1) = true := decide_eq_true c10
     clear c10
     by_cases c11 : x4_1 < (l0_2.length : Int)
     ·rw [if_pos c11] at H
      have c11b0 : decide (x4_1 < (l0_2.length : Int)) = true := decide_eq_true c11
      clear c11
      by_cases c12 : x4_1 < (x3_1.length : Int)
      ·rw [if_pos c12] at H
       have c12b0 : decide (x4_1 < (x3_1.length : Int)) = true := decide_eq_true c12
       clear c12
       obtain ⟨ji13, hji13⟩ : ∃ j_ : Int, (wrap64 (x4_1 - 1)) = j_ := ⟨_, rfl⟩
       replace H : (if 0 ≤ (ji13) then (if (ji13) < (x3_1.length : Int) then ((impl_field_next.f k1 t658 (rd l0_1 x4_1) (rd l0_2 x4_1) (rd_L1 x3_1 x4_1) (rd_L1 x3_1 (ji13))).bind fun t663 => (if x3_1.length < 5864062014805 then (impl_Jacobi_associated.l0 k1 (x3_1 ++ [t663]) (wrap64 (x4_1 + 1)) a0_0 l0_1 l0_2) else (none))) else (none)) else (none)) = some r := by first | (rw [hji13] at H; exact H) | (simp only [hji13] at H ⊢; exact H)
       (try rw [hji13] at A9)
       have hji13w : (IntKind.i64.wrap (x4_1 - 1)) = ji13 := (i64_w _).trans hji13
       by_cases c14 : 0 ≤ (ji13)
       ·rw [if_pos c14] at H
        have c14b0 : decide (0 ≤ (ji13)) = true := decide_eq_true c14
        clear c14
        by_cases c15 : (ji13) < (x3_1.length : Int)
        ·rw [if_pos c15] at H
         have c15b0 : decide ((ji13) < (x3_1.length : Int)) = true := decide_eq_true c15
         clear c15
         replace H := Option.bind_eq_some_iff.mp H
         obtain ⟨t663, A160, H⟩ := H
         replace H : (if x3_1.length < 5864062014805 then (impl_Jacobi_associated.l0 k1 (x3_1 ++ [t663]) (wrap64 (x4_1 + 1)) a0_0 l0_1 l0_2) else (none)) = some r := H
         have A16 := zA A160
         clear A160
         by_cases c17 : x3_1.length < 5864062014805
         ·rw [if_pos c17] at H
          have LMc17 := zA c17
          clear c17
          obtain ⟨y666, hy666⟩ : ∃ y_ : List (List Int), y_ = (x3_1 ++ [t663]) := ⟨_, rfl⟩
          replace H : (impl_Jacobi_associated.l0 k1 y666 (wrap64 (x4_1 + 1)) a0_0 l0_1 l0_2) = some r := by first | (rw [hy666]; with_reducible exact H) | (have H2_ := (Option.bind_some _ _).symm.trans H; rw [hy666]; with_reducible exact H2_) | (have H2_ := (Option.bind_some _ _).symm.trans H; with_reducible exact H2_) | with_reducible exact H | (rw [hy666]; exact H) | exact H
          have Ny666 := zA hy666
          clear hy666
          have H' := zA H
          clear H
          have hcz18_0 : wr.cell? ⟨gb651, 0, none⟩ = some (.int .i64 a0_0) := (blk_cell BK651.out 0).trans rfl
          have hcz18_1 : wr.cell? ⟨gb651, 1, none⟩ = some (.slice A0_1 l0_1.length c0_1) := (blk_cell BK651.out 1).trans rfl
          have hcz18_2 : wr.cell? ⟨gb651, 2, none⟩ = some (.slice A0_2 l0_2.length c0_2) := (blk_cell BK651.out 2).trans rfl
          have hfz18_0 := blk_frozen BK651.out 0
          have hfz18_1 := blk_frozen BK651.out 1
          have hfz18_2 := blk_frozen BK651.out 2
          try go_wp2
          have n0_ := zA (Kd.N_drew HO_3.out)
          have n1_ := zA (blk_drew BK651.out)
          have n2_ := zA (below_drew1 HB.out)
          clear HO_3 BK651 HB
          have HO_3 := n0_; have BK651 := n1_; have HB := n2_
          clear n0_ n1_ n2_
          have p659 : 0 ≤ (x4_1 : Int) := of_decide_eq_true (by first | (with_reducible assumption) | assumption)
          have q659 : x4_1 < (l0_1.length : Int) := of_decide_eq_true (by first | (with_reducible assumption) | assumption)
          obtain ⟨ad659, e659, hx659_0⟩ := Kd.at_int HR0_1.out x4_1 p659 q659
          have hw659_0 := hx659_0
          cases e659
          replace hx659_0 := (HB.out.cell (World.block_lt_of_cell? w _ hx659_0)).trans hx659_0
          replace p659 := eq_true p659
          replace q659 := eq_true q659
          have p660 : 0 ≤ (x4_1 : Int) := of_decide_eq_true (by first | (with_reducible assumption) | assumption)
          have q660 : x4_1 < (l0_2.length : Int) := of_decide_eq_true (by first | (with_reducible assumption) | assumption)
          obtain ⟨ad660, e660, hx660_0⟩ := Kd.at_int HR0_2.out x4_1 p660 q660
          have hw660_0 := hx660_0
          cases e660
          replace hx660_0 := (HB.out.cell (World.block_lt_of_cell? w _ hx660_0)).trans hx660_0
          replace p660 := eq_true p660
          replace q660 := eq_true q660
          obtain ⟨Ao20, co20, eo20⟩ := Kd.N_slice HO_3.out
          (first | subst eo20 | (injection eo20 with f1_ f2_ f3_; have f4_ := f1_.symm; have f5_ := f3_.symm; clear f1_ f2_ f3_; subst f4_; subst f5_))
          have p661 : 0 ≤ (x4_1 : Int) := of_decide_eq_true (by first | (with_reducible assumption) | assumption)
          have q661 : x4_1 < (x3_1.length : Int) := of_decide_eq_true (by first | (with_reducible assumption) | assumption)
          obtain ⟨ad661, A661_0, c661_0, e661, hx661_0, hl661_0, hi661_0⟩ := at_L1 (Kd.N_reads' HO_3.out).2.2 x4_1 p661 q661
          cases e661
          obtain ⟨ce661, hce661, hMe661, hcc661⟩ := Kd.N_get HO_3.out [] x4_1 p661 (by first | exact q661 | exact of_decide_eq_true (by first | (with_reducible assumption) | assumption) | (have e_ := (Kd.N_reads' HO_3.out).1; omega))
          obtain ⟨ua661_0, uc661_0, rfl, ul661_0, ge661_0⟩ := Kd.FK_slice_open hMe661
          have hv661_0 := hcc661 0 _ rfl
          rw [Nat.add_zero, show ((Kd.slice 2 (Kd.int .i64))).sz = 1 from rfl, Nat.mul_one] at hv661_0
          replace hv661_0 := Option.some.inj (hv661_0.symm.trans hx661_0)
          injection hv661_0 with hva_ hvn_ hvc_
          rw [hva_] at ge661_0
          rw [hvc_] at ul661_0
          have HL661_0 := zA (show Kd.V (Kd.int .i64) 2 _ w.heap.size _ _ (rd_L1 x3_1 x4_1) from Kd.V_mk ul661_0 ge661_0)
          clear hva_ hvn_ hvc_ ge661_0 ul661_0
          clear hcc661 hce661
          have HR661_0 := zA hi661_0
          have HC661_0 := zA hl661_0
          clear hi661_0 hl661_0
          replace p661 := eq_true p661
          replace q661 := eq_true q661
          have p662 : 0 ≤ ((ji13) : Int) := of_decide_eq_true (by first | (with_reducible assumption) | assumption)
          have q662 : (ji13) < (x3_1.length : Int) := of_decide_eq_true (by first | (with_reducible assumption) | assumption)
          obtain ⟨ad662, A662_0, c662_0, e662, hx662_0, hl662_0, hi662_0⟩ := at_L1 (Kd.N_reads' HO_3.out).2.2 (ji13) p662 q662
          obtain rfl : ad661 = ad662 := (by injection e662)
          obtain ⟨ce662, hce662, hMe662, hcc662⟩ := Kd.N_get HO_3.out [] (ji13) p662 (by first | exact q662 | exact of_decide_eq_true (by first | (with_reducible assumption) | assumption) | (have e_ := (Kd.N_reads' HO_3.out).1; omega))
          obtain ⟨ua662_0, uc662_0, rfl, ul662_0, ge662_0⟩ := Kd.FK_slice_open hMe662
          have hv662_0 := hcc662 0 _ rfl
          rw [Nat.add_zero, show ((Kd.slice 2 (Kd.int .i64))).sz = 1 from rfl, Nat.mul_one] at hv662_0
          replace hv662_0 := Option.some.inj (hv662_0.symm.trans hx662_0)
          injection hv662_0 with hva_ hvn_ hvc_
          rw [hva_] at ge662_0
          rw [hvc_] at ul662_0
          have HL662_0 := zA (show Kd.V (Kd.int .i64) 2 _ w.heap.size _ _ (rd_L1 x3_1 (ji13)) from Kd.V_mk ul662_0 ge662_0)
          clear hva_ hvn_ hvc_ ge662_0 ul662_0
          clear hcc662 hce662
          have HR662_0 := zA hi662_0
          have HC662_0 := zA hl662_0
          clear hi662_0 hl662_0
          replace p662 := eq_true p662
          replace q662 := eq_true q662
          refine start_ (n := 26) (S := fun w' => w'.cell? ⟨gb651, 0, none⟩ = some (.int .i64 a0_0) ∧ w'.cell? ⟨gb651, 1, none⟩ = some (.slice (some ad659) l0_1.length c0_1) ∧ w'.cell? ⟨gb651, 2, none⟩ = some (.slice (some ad660) l0_2.length c0_2) ∧ w'.cell? (ad659.add (x4_1).toNat) = some (.int .i64 (rd l0_1 x4_1)) ∧ w'.cell? (ad660.add (x4_1).toNat) = some (.int .i64 (rd l0_2 x4_1)) ∧ w'.cell? (ad661.add (x4_1).toNat) = some (.slice A661_0 (rd_L1 x3_1 x4_1).length c661_0) ∧ w'.cell? (ad661.add ((ji13)).toNat) = some (.slice A662_0 (rd_L1 x3_1 (ji13)).length c662_0)) (ds := [23, 24]) #[false, false, false, false, false, false, false, false, false, false, false, false, false, false, false, false, false, false, false, false, false, false, false, false, false, false] (by kernel_rfl) rfl rfl ⟨(blk_cell BK651.out 0).trans rfl, (blk_cell BK651.out 1).trans rfl, (blk_cell BK651.out 2).trans rfl, ((HB.out.cell (World.block_lt_of_cell? w _ hw659_0)).trans hw659_0), ((HB.out.cell (World.block_lt_of_cell? w _ hw660_0)).trans hw660_0), hx661_0, hx662_0⟩ (fun hHeld => ?_); refine with_tabW impl_Jacobi_associated.tab5 impl_Jacobi_associated.bits5 (fun HT_ HW_ => ?_)
          generalize wr.drew = w19 at HO_3 BK651 HB HL661_0 HL662_0 HR661_0 HR662_0 hx659_0 hx660_0 hx661_0 hx662_0 hHeld ⊢
          refine pu_ 0 14 (bl 26 1) HT_ ?_
          refine pu_ 3 17 (bl 26 9) HT_ ?_
          refine pu_ 5 19 (bl 26 41) HT_ ?_
          refine pu_ 8 22 (bl 26 297) HT_ ?_
          refine pu_ 10 24 (bl 26 1321) HT_ ?_
          refine pu_ 13 27 (bl 26 9513) HT_ ?_
          refine pu_ 14 28 (bl 26 25897) HT_ ?_
          refine pu_ 15 29 (bl 26 58665) HT_ ?_
          refine pu_ 17 31 (bl 26 189737) HT_ ?_
          refine pu_ 18 32 (bl 26 451881) HT_ ?_
          refine pu_ 19 33 (bl 26 976169) HT_ ?_
          refine pu_ 20 34 (bl 26 2024745) HT_ ?_
          refine ta_ 1 15 (bl 26 2024747) HT_ HW_ hHeld ?_
          refine ta_ 4 18 (bl 26 2024763) HT_ HW_ hHeld ?_
          refine pu_ 6 20 (bl 26 2024827) HT_ ?_
          refine ta_ 7 21 (bl 26 2024955) HT_ HW_ hHeld ?_
          refine ta_ 9 23 (bl 26 2025467) HT_ HW_ hHeld ?_
          refine pu_ 11 25 (bl 26 2027515) HT_ ?_
          refine ta_ 12 26 (bl 26 2031611) HT_ HW_ hHeld ?_
          refine ta_ 16 30 (bl 26 2097147) HT_ HW_ hHeld ?_
          refine ta_ 21 35 (bl 26 4194299) HT_ HW_ hHeld ?_
          refine on_ 2 (some 16) (bl 26 4194303) HT_ (fun K hK => ?_)
          refine goes_ Try.func76 (by kernel_rfl) rfl #[.agg #[.int .i64 a0_0, .slice (some ad659) l0_1.length c0_1, .slice (some ad660) l0_2.length c0_2]] (by rfl) rfl rfl (by (try simp only [la, lb, lc]); first | done | rfl | (simp only [ld, le]; rfl)) ?_
          with_reducible refine (impl_Jacobi_field.calls a0_0 _ _ l0_1 _ _ l0_2 t658 _ ?side1 ?side2 ?side3 ?side4 A9.out).mono ?_
          (case side1 => exact uC ((Kd.C_below HR0_1.out HB.out)))
          (case side2 => exact HC0_1.out)
          (case side3 => exact uC ((Kd.C_below HR0_2.out HB.out)))
          (case side4 => exact HC0_2.out)
          rintro e w21 ⟨rfl, hb⟩
          have HS5_ := (hb.cell (World.block_lt_of_cell? _ _ (hHeld.2.2.2.2.2.1))).trans (hHeld.2.2.2.2.2.1)
          have HS6_ := (hb.cell (World.block_lt_of_cell? _ _ (hHeld.2.2.2.2.2.2))).trans (hHeld.2.2.2.2.2.2)
          refine ⟨_, rfl, ?_⟩
          have n0_ := zA (Kd.N_below (by (with_reducible repeat (first | apply Kd.N_alloc | apply Kd.N_drewN | apply Kd.N_drew)); exact HO_3.out) hb)
          have n1_ := zA (Kd.V_below (by (with_reducible repeat (first | apply Kd.V_alloc | apply Kd.V_drewN | apply Kd.V_drew)); exact HL661_0.out) hb)
          have n2_ := zA (Kd.V_below (by (with_reducible repeat (first | apply Kd.V_alloc | apply Kd.V_drewN | apply Kd.V_drew)); exact HL662_0.out) hb)
          have n3_ := xB BK651 hb
          have n4_ := zA (Kd.C_below (by repeat (first | (with_reducible exact HR661_0.out) | (with_reducible refine Kd.C_alloc ?_ _) | (with_reducible refine Kd.C_drewN ?_ _) | (with_reducible refine Kd.C_drew ?_) | exact HR661_0.out)) hb)
          have n5_ := zA (Kd.C_below (by repeat (first | (with_reducible exact HR662_0.out) | (with_reducible refine Kd.C_alloc ?_ _) | (with_reducible refine Kd.C_drewN ?_ _) | (with_reducible refine Kd.C_drew ?_) | exact HR662_0.out)) hb)
          have n6_ := xH HB hb
          clear HO_3 HL661_0 HL662_0 BK651 HR661_0 HR662_0 HB
          have HO_3 := n0_; have HL661_0 := n1_; have HL662_0 := n2_; have BK651 := n3_; have HR661_0 := n4_; have HR662_0 := n5_; have HB := n6_
          clear n0_ n1_ n2_ n3_ n4_ n5_ n6_
          (try clear hb); (try clear hb2); (try clear hk); (try clear hi)
          refine hK.out _ _ ⟨(blk_cell BK651.out 0).trans rfl, (blk_cell BK651.out 1).trans rfl, (blk_cell BK651.out 2).trans rfl, ((HB.out.cell (World.block_lt_of_cell? w _ hw659_0)).trans hw659_0), ((HB.out.cell (World.block_lt_of_cell? w _ hw660_0)).trans hw660_0), HS5_, HS6_⟩ (fun hHeld => ?_)
          clear hK K
          refine no_ 16 ?_
          refine on_ 22 (some 36) (bl 26 8388607) HT_ (fun K hK => ?_)
          refine goes_ Try.func139 (by kernel_rfl) rfl #[.int .i64 t658, .int .i64 (rd l0_1 x4_1), .int .i64 (rd l0_2 x4_1), .slice A661_0 (rd_L1 x3_1 x4_1).length c661_0, .slice A662_0 (rd_L1 x3_1 (ji13)).length c662_0] (by rfl) rfl rfl (by (try simp only [la, lb, lc]); first | done | (simp only [hji13]; rfl) | rfl | (simp only [ld, le]; rfl)) ?_
          with_reducible refine (impl_field_next.calls k1 t658 (rd l0_1 x4_1) (rd l0_2 x4_1) _ _ (rd_L1 x3_1 x4_1) _ _ (rd_L1 x3_1 (ji13)) t663 _ ?side1 ?side2 ?side3 ?side4 A16.out).mono ?_
          (case side1 => repeat (first | exact (by repeat (first | (with_reducible exact HR661_0.out) | (with_reducible refine Kd.C_alloc ?_ _) | (with_reducible refine Kd.C_drewN ?_ _) | (with_reducible refine Kd.C_drew ?_) | exact HR661_0.out)) | (with_reducible refine Kd.C_alloc ?_ _) | (with_reducible refine Kd.C_drewN ?_ _) | (with_reducible refine Kd.C_drew ?_)))
          (case side2 => exact HC661_0.out)
          (case side3 => repeat (first | exact (by repeat (first | (with_reducible exact HR662_0.out) | (with_reducible refine Kd.C_alloc ?_ _) | (with_reducible refine Kd.C_drewN ?_ _) | (with_reducible refine Kd.C_drew ?_) | exact HR662_0.out)) | (with_reducible refine Kd.C_alloc ?_ _) | (with_reducible refine Kd.C_drewN ?_ _) | (with_reducible refine Kd.C_drew ?_)))
          (case side4 => exact HC662_0.out)
          rintro e w22 ⟨v664, rfl, ho0, hb⟩
          have HS5_ := (hb.cell (World.block_lt_of_cell? _ _ (hHeld.2.2.2.2.2.1))).trans (hHeld.2.2.2.2.2.1)
          have HS6_ := (hb.cell (World.block_lt_of_cell? _ _ (hHeld.2.2.2.2.2.2))).trans (hHeld.2.2.2.2.2.2)
          refine ⟨_, rfl, ?_⟩
          have n0_ := zA (Kd.N_elder' (by (with_reducible repeat (first | apply Kd.N_alloc | apply Kd.N_drewN | apply Kd.N_drew)); exact HO_3.out) (Kd.R_base ho0) hb)
          have n1_ := zA (Kd.V_elder' (by (with_reducible repeat (first | apply Kd.V_alloc | apply Kd.V_drewN | apply Kd.V_drew)); exact HL661_0.out) (Kd.R_base ho0) hb)
          have n2_ := zA (Kd.V_elder' (by (with_reducible repeat (first | apply Kd.V_alloc | apply Kd.V_drewN | apply Kd.V_drew)); exact HL662_0.out) (Kd.R_base ho0) hb)
          have n3_ := zA (Kd.R_lower (Kd.R_newM (M := fun k_ => (w.heap.size ≤ k_)) ho0 (below_size (uH HB.out)) (fun k_ h_ => h_)) (below_size (uH HB.out)))
          have n4_ := xB BK651 hb
          have n5_ := zA (Kd.C_below (by repeat (first | (with_reducible exact HR661_0.out) | (with_reducible refine Kd.C_alloc ?_ _) | (with_reducible refine Kd.C_drewN ?_ _) | (with_reducible refine Kd.C_drew ?_) | exact HR661_0.out)) hb)
          have n6_ := zA (Kd.C_below (by repeat (first | (with_reducible exact HR662_0.out) | (with_reducible refine Kd.C_alloc ?_ _) | (with_reducible refine Kd.C_drewN ?_ _) | (with_reducible refine Kd.C_drew ?_) | exact HR662_0.out)) hb)
          have n7_ := xH HB hb
          clear HO_3 HL661_0 HL662_0 BK651 HR661_0 HR662_0 HB
          have HO_3 := n0_; have HL661_0 := n1_; have HL662_0 := n2_; have HO665 := n3_; have BK651 := n4_; have HR661_0 := n5_; have HR662_0 := n6_; have HB := n7_
          clear n0_ n1_ n2_ n3_ n4_ n5_ n6_ n7_
          (try clear hb); (try clear hb2); (try clear hk); (try clear hi); (try clear ho0)
          obtain ⟨Ao24, co24, eo24⟩ := Kd.R_slice HO665.out
          (first | subst eo24 | (injection eo24 with f1_ f2_ f3_; have f4_ := f1_.symm; have f5_ := f3_.symm; clear f1_ f2_ f3_; subst f4_; subst f5_))
          refine hK.out _ _ ⟨(blk_cell BK651.out 0).trans rfl, (blk_cell BK651.out 1).trans rfl, (blk_cell BK651.out 2).trans rfl, ((HB.out.cell (World.block_lt_of_cell? w _ hw659_0)).trans hw659_0), ((HB.out.cell (World.block_lt_of_cell? w _ hw660_0)).trans hw660_0), HS5_, HS6_⟩ (fun hHeld => ?_)
          clear hK K
          refine no_ 36 ?_
          refine last_ (i := 23) (N := some 37) (bl 26 16777215) rfl rfl (one_of HT_.out (by kernel_rfl)) (by decide) (fun K hK => ?_)
          refine value_ (w1 := ?_) (v := ?_) (by rfl) rfl ?_ ?_
          rotate_left 2
          ·go_simp
           constructor
           ·rfl
           ·rfl
          refine hK.out _ _ ?_
          clear hK K
          refine no_ 37 ?_
          refine last_ (i := 24) (N := some 38) (bl 26 33554431) rfl rfl (one_of HT_.out (by kernel_rfl)) (by decide) (fun K hK => ?_)
          refine Kd.N_append_step (Kd.slice 2 (Kd.int .i64)) (w0 := w) w.heap.size (by rfl) (.tmp 14) (.tmp 37) 89 22 (.slice none 0 0) 24 rfl Try.underlying89 info22 rfl (by decide) (by omega) (.slice (some ad661) x3_1.length co20) x3_1 t663 [.slice Ao24 t663.length co24] (fun k_ => (w.heap.size ≤ k_) ∧ k_ ≠ gb651) (fun k_ => ((fun k_ => (w.heap.size ≤ k_) ∧ k_ ≠ gb651)) k_ ∧ some k_ ≠ (.slice (some ad661) x3_1.length co20 : Value).ownBlock) rfl rfl ?aP (fun _ hk => hk) ?aF ?aO ?aB ?aS ?aL ?_
          (case aP => exact (Kd.FK_slice_mk (Kd.R_reads' (Kd.R_mono (ok' := (fun k_ => ((fun k_ => (w.heap.size ≤ k_) ∧ k_ ≠ gb651)) k_ ∧ some k_ ≠ (.slice (some ad661) x3_1.length co20 : Value).ownBlock)) (Kd.R_types (Kd.R_apart' (HO665.out) (Kd.N_typed HO_3.out) (by decide)) BK651.out (by decide)) (fun k_ hk => ⟨⟨hk.1.1.1, hk.2⟩, hk.1.2⟩))).2.1 (Kd.R_F (Kd.R_mono (ok' := (fun k_ => ((fun k_ => (w.heap.size ≤ k_) ∧ k_ ≠ gb651)) k_ ∧ some k_ ≠ (.slice (some ad661) x3_1.length co20 : Value).ownBlock)) (Kd.R_types (Kd.R_apart' (HO665.out) (Kd.N_typed HO_3.out) (by decide)) BK651.out (by decide)) (fun k_ hk => ⟨⟨hk.1.1.1, hk.2⟩, hk.1.2⟩)))))
          (case aB => exact (uH HB.out))
          (case aF => exact (fun k_ hk => ⟨(Nat.le_trans (below_size (uH HB.out)) hk), Kd.freshB (g := gb651) (o := .cells #[.int .i64 a0_0, .slice (some ad659) l0_1.length c0_1, .slice (some ad660) l0_2.length c0_2] 46 (0, 0)) (uB BK651.out) k_ hk⟩))
          (case aO => exact (by (with_reducible repeat (first | apply Kd.N_alloc | apply Kd.N_drewN | apply Kd.N_drew)); exact Kd.N_mono HO_3.out (fun _ hk => ⟨hk.1.1, hk.1.2⟩)))
          (case aS => exact (below_size (uH HB.out)))
          (case aL => have := LMc17.out; omega)
          intro v667 w23 ho hb hg hat
          rw [← Ny666.out] at ho
          have n0_ := zA (blk_grown (g := gb651) (o := .cells #[.int .i64 a0_0, .slice (some ad659) l0_1.length c0_1, .slice (some ad660) l0_2.length c0_2] 46 (0, 0)) (uB BK651.out) hg (Kd.N_ne HO_3.out BK651.out (by decide)))
          have n1_ := zA (Kd.V_afterv (ok := (fun k_ => (w.heap.size ≤ k_) ∧ some k_ ≠ (.slice Ao24 t663.length co24 : Value).ownBlock ∧ k_ ≠ gb651)) (by (with_reducible repeat (first | apply Kd.V_alloc | apply Kd.V_drewN | apply Kd.V_drew)); exact Kd.V_mono HL661_0.out (fun _ hk => ⟨⟨hk.1.1.1, ⟨hk.2, hk.1.1.2⟩⟩, hk.1.2⟩)) hg hat)
          have n2_ := zA (Kd.V_afterv (ok := (fun k_ => (w.heap.size ≤ k_) ∧ some k_ ≠ (.slice Ao24 t663.length co24 : Value).ownBlock ∧ k_ ≠ gb651)) (by (with_reducible repeat (first | apply Kd.V_alloc | apply Kd.V_drewN | apply Kd.V_drew)); exact Kd.V_mono HL662_0.out (fun _ hk => ⟨⟨hk.1.1.1, ⟨hk.2, hk.1.1.2⟩⟩, hk.1.2⟩)) hg hat)
          have n3_ := zA (hb)
          have n4_ := zA (ho)
          clear BK651 HL661_0 HL662_0 HB HO_3 HO665
          have BK651 := n0_; have HL661_0 := n1_; have HL662_0 := n2_; have HB := n3_; have HO668 := n4_
          clear n0_ n1_ n2_ n3_ n4_
          clear ho hb hg hat
          refine hK.out _ _ ?_
          clear hK K
          refine no_ 38 ?_
          refine pu_ 25 3 (bl 26 67108863) HT_ ?_
          refine done_ (done_of HT_.out (by kernel_rfl)) ?_
          try go_wp2
          go_roundg k1
          case measure => have := HK1.out; omega
          case rel => exact ⟨(y666), (wrap64 (x4_1 + 1)), (by first | rfl | (simp; done) | (simp [*]; done)), H', ⟨by have := HK1.out; omega⟩, ⟨by (with_reducible repeat (first | apply Kd.N_alloc | apply Kd.N_drewN | apply Kd.N_drew)); exact HO668.out⟩, ⟨uB BK651.out⟩, ⟨uH HB.out⟩⟩
         ·rw [if_neg c17] at H
          exact absurd H (by simp)
        ·rw [if_neg c15] at H
         exact absurd H (by simp)
       ·rw [if_neg c14] at H
        exact absurd H (by simp)
      ·rw [if_neg c12] at H
       exact absurd H (by simp)
     ·rw [if_neg c11] at H
      exact absurd H (by simp)
    ·rw [if_neg c10] at H
     exact absurd H (by simp)
   ·rw [if_neg c8] at H
    have c8b0 : decide (x4_1 < (l0_1.length : Int)) = false := decide_eq_false c8
    clear c8
    obtain rfl := Option.some.inj H
    have hcz25_0 : wr.cell? ⟨gb651, 0, none⟩ = some (.int .i64 a0_0) := (blk_cell BK651.out 0).trans rfl
    have hcz25_1 : wr.cell? ⟨gb651, 1, none⟩ = some (.slice A0_1 l0_1.length c0_1) := (blk_cell BK651.out 1).trans rfl
    have hcz25_2 : wr.cell? ⟨gb651, 2, none⟩ = some (.slice A0_2 l0_2.length c0_2) := (blk_cell BK651.out 2).trans rfl
    have hfz25_0 := blk_frozen BK651.out 0
    have hfz25_1 := blk_frozen BK651.out 1
    have hfz25_2 := blk_frozen BK651.out 2
    go_wp2
    go_ret
    exact ⟨_, by first | rfl | (simp [errW_none, errW_some] <;> rfl) | (simp [*, errW_none, errW_some] <;> rfl), by (with_reducible repeat (first | apply Kd.N_alloc | apply Kd.N_drewN | apply Kd.N_drew)); exact Kd.N_mono HO_3.out (fun _ hk => hk.1), uH HB.out⟩

end Go.Proofs.Ytokkabgkjhpecaa.Pr
/- Printed by a program of this session out of the translation: what these functions of the program compute, under the conditions that each theorem names. -/
namespace Go.Proofs.Ytokkabgkjhpecaa.Pr
open Go.RowKit Go.Proofs.YtokkabgkjhpecaaW.PrintWords Go.Proofs.YtokkabgkjhpecaaW.PrintLast Go.Proofs.YtokkabgkjhpecaaW.PrintMore
attribute [local go_sem] max2_int min2_int max_two min_two max_three min_three max_four min_four   -- for this text's walks alone
set_option linter.unusedVariables false
set_option linter.unusedSimpArgs false

/-! ### impl_Jacobi_polys: function 79 -/
def impl_Jacobi_polys.l0 : Nat → List (List Int) → List Int → List Int → Int → Int → Int → List Int → List Int → Option ((List (List Int)))
 | 0, _, _, _, _, _, _, _, _ => none
 | k + 1, x3, x4, x11, x12, x13, x521000, x521001, x521002 => if x13 < x12 then (if 0 ≤ x13 then (if x13 < (x11.length : Int) then (if x13 < (x3.length : Int) then ((impl_Jacobi_field.f x521000 x521001 x521002).bind fun t529 => (if x13 < (x521002.length : Int) then ((impl_field_next.f k t529 (rd x11 x13) (rd x521002 x13) (rd_L1 x3 x13) x4).bind fun t531 => (if x3.length < 5864062014805 then (impl_Jacobi_polys.l0 k (x3 ++ [t531]) (rd_L1 x3 x13) x11 x12 (wrap64 (x13 + 1)) x521000 x521001 x521002) else (none))) else (none))) else (none)) else (none)) else (none)) else (some x3)
def impl_Jacobi_polys.f (k : Nat) (a0_0 : Int) (l0_1 : List Int) (l0_2 : List Int) : Option ((List (List Int))) := impl_Jacobi_polys.l0 k (([(([1] : List Int))] : List (List Int))) ([] : List Int) l0_1 (l0_1.length : Int) 0 a0_0 l0_1 l0_2
theorem impl_Jacobi_polys.mono_l : ∀ k, (∀ y0 y1 y2 y3 y4 y5 y6 y7, LeO (impl_Jacobi_polys.l0 k y0 y1 y2 y3 y4 y5 y6 y7) (impl_Jacobi_polys.l0 (k + 1) y0 y1 y2 y3 y4 y5 y6 y7))
 | 0 => fun _ _ _ _ _ _ _ _ r h => by simp [impl_Jacobi_polys.l0] at h
 | k + 1 => by
  have ih0 := impl_Jacobi_polys.mono_l k
  ·intro y0 y1 y2 y3 y4 y5 y6 y7
   unfold impl_Jacobi_polys.l0
   repeat' first
   | (with_reducible exact ih0 _ _ _ _ _ _ _ _)
   | (with_reducible exact impl_field_next.mono _ _ _ _ _ _)
   | (with_reducible exact LeO.refl _)
   | (with_reducible exact LeO.none _)
   | (with_reducible refine LeO.ite ?_ ?_)
   | (with_reducible refine LeO.bind ?_ (fun _ => ?_))
   | exact ih0 _ _ _ _ _ _ _ _
   | exact impl_field_next.mono _ _ _ _ _ _
   | exact LeO.none _
   | refine LeO.ite ?_ ?_
   | refine LeO.bind ?_ (fun _ => ?_)
theorem impl_Jacobi_polys.mono : ∀ a0 a1 a2 k, LeO (impl_Jacobi_polys.f k a0 a1 a2) (impl_Jacobi_polys.f (k + 1) a0 a1 a2) := by
 intro a0 a1 a2 k
 have ih0 := impl_Jacobi_polys.mono_l k
 unfold impl_Jacobi_polys.f
 repeat' first
   | (with_reducible exact ih0 _ _ _ _ _ _ _ _)
   | (with_reducible exact impl_field_next.mono _ _ _ _ _ _)
   | (with_reducible exact LeO.refl _)
   | (with_reducible exact LeO.none _)
   | (with_reducible refine LeO.ite ?_ ?_)
   | (with_reducible refine LeO.bind ?_ (fun _ => ?_))
   | exact ih0 _ _ _ _ _ _ _ _
   | exact impl_field_next.mono _ _ _ _ _ _
   | exact LeO.none _
   | refine LeO.ite ?_ ?_
   | refine LeO.bind ?_ (fun _ => ?_)
def impl_Jacobi_polys.T7 : Bool × List (List Nat × List Nat) := (true, [([], []), ([], []), ([1], [1]), ([], []), ([], []), ([4], [4]), ([], []), ([5, 6], [5, 6]), ([7], [7]), ([], []), ([], []), ([2, 3, 8, 9, 10, 2], [2, 3, 8, 9, 10]), ([11], [11]), ([0, 12, 11], [0, 12]), ([13, 13, 0, 1, 2, 3, 4, 5, 6, 7, 8, 9, 10, 11, 12, 13], [0, 13])])
def impl_Jacobi_polys.B7 : List Nat := [0, 0, 2, 0, 0, 16, 0, 112, 240, 0, 0, 2046, 4094, 8191, 16383]
theorem impl_Jacobi_polys.tab7 : rtab .any (opsOf Try.f79 7) = impl_Jacobi_polys.T7 := by kernel_rfl
theorem impl_Jacobi_polys.bits7 : waitsOk impl_Jacobi_polys.T7.2 impl_Jacobi_polys.B7 = true := by kernel_rfl
set_option maxHeartbeats 8000000 in
set_option maxRecDepth 100000 in
theorem impl_Jacobi_polys.calls (k : Nat) (a0_0 : Int) (A0_1 : Option Addr) (c0_1 : Nat) (l0_1 : List Int) (A0_2 : Option Addr) (c0_2 : Nat) (l0_2 : List Int) (r : List (List Int)) (w : World) (hr0_1 : Kd.C (Kd.int .i64) w A0_1 l0_1.length l0_1) (hc0_1 : l0_1.length ≤ c0_1) (hr0_2 : Kd.C (Kd.int .i64) w A0_2 l0_2.length l0_2) (hc0_2 : l0_2.length ≤ c0_2) (h : impl_Jacobi_polys.f k a0_0 l0_1 l0_2 = some r) :
  Calls Try.prog 79 #[.agg #[.int .i64 a0_0, .slice A0_1 l0_1.length c0_1, .slice A0_2 l0_2.length c0_2]] w fun e w' => ∃ v0_ : Value, e = .returned (v0_) ∧ Kd.N (Kd.slice 2 (Kd.int .i64)) 22 w' w.heap.size (fun k_ => (w.heap.size ≤ k_)) v0_ r ∧ Below w.heap.size w w' := by
 have hu46 := Try.underlying46
 have HR0_1 := zA hr0_1
 have HC0_1 := zA hc0_1
 clear hr0_1 hc0_1
 have HR0_2 := zA hr0_2
 have HC0_2 := zA hc0_2
 clear hr0_2 hc0_2
 have HB := zA (Below.refl w.heap.size w)
 have H : (impl_Jacobi_polys.l0 k (([(([1] : List Int))] : List (List Int))) ([] : List Int) l0_1 (l0_1.length : Int) 0 a0_0 l0_1 l0_2) = some r := h
 clear h
 obtain ⟨y521, hy521⟩ : ∃ y_ : List Int, y_ = (([1] : List Int)) := ⟨_, rfl⟩
 replace H : (impl_Jacobi_polys.l0 k (([y521] : List (List Int))) ([] : List Int) l0_1 (l0_1.length : Int) 0 a0_0 l0_1 l0_2) = some r := by first | (rw [hy521]; with_reducible exact H) | (have H2_ := (Option.bind_some _ _).symm.trans H; rw [hy521]; with_reducible exact H2_) | (have H2_ := (Option.bind_some _ _).symm.trans H; with_reducible exact H2_) | with_reducible exact H | (rw [hy521]; exact H) | exact H
 have Ny521 := zA hy521
 clear hy521
 obtain ⟨y524, hy524⟩ : ∃ y_ : List (List Int), y_ = (([y521] : List (List Int))) := ⟨_, rfl⟩
 replace H : (impl_Jacobi_polys.l0 k y524 ([] : List Int) l0_1 (l0_1.length : Int) 0 a0_0 l0_1 l0_2) = some r := by first | (rw [hy524]; with_reducible exact H) | (have H2_ := (Option.bind_some _ _).symm.trans H; rw [hy524]; with_reducible exact H2_) | (have H2_ := (Option.bind_some _ _).symm.trans H; with_reducible exact H2_) | with_reducible exact H | (rw [hy524]; exact H) | exact H
 have Ny524 := zA hy524
 clear hy524
 have H' := zA H
 clear H
 go_enter Try.func79, Try.ntmps79
 go_wp2_with (first | ((with_reducible refine gate_dst (N := 1) rfl ?_); refine box_event ?hg (N := 1) ?hd (cs := #[.int .i64 a0_0, .slice A0_1 l0_1.length c0_1, .slice A0_2 l0_2.length c0_2]) (t := 46) ?hr ?_; (case hd => rfl); (case hg => rfl); (case hr => first | (go_simp; done) | (go_simp; rfl)); intro gb520 hg w2 hbox hb; have n0_ := xH HB hb; have n1_ := zA (hbox); have n2_ := zA ((by rw [hg]; exact (below_size (uH HB.out)) : w.heap.size ≤ gb520)); have n3_ := zA ((by rw [hg]; exact (below_size (uH HB.out)) : w.heap.size ≤ gb520)); clear HB; have HB := n0_; have BK520 := n1_; have GW520 := n2_; have GE520 := n3_; have := geI GE520; clear n0_ n1_ n2_ n3_ hb hbox hg) | ((with_reducible refine gate_dst (N := 8) rfl ?_); refine Kd.R_lit (Kd.int .i64) _ 2 ?hg (N := 8) ?hd (xs := ([1] : List Int)) (inner := [.int .i64 1]) (ok := fun _ => True) (okp := fun _ => True) ?hr ?hp (fun _ hk => hk) trivial (Below.refl _ _) (Nat.le_refl _) (by simp) ?_; (case hd => rfl); (case hg => rfl); (case hr => first | (go_simp; done) | (go_simp; rfl)); (case hp => exact (Reps.one (show Kd.M (Kd.int .i64) _ _ _ 1 [.int .i64 1] from rfl) (Reps.none _ _))); intro v522 w3 ho4 hb hg_ hnew_; clear hg_ hnew_; (first | rw [← Ny521.out] at ho4 | (simp only [Int.reduceToNat] at ho4; rw [← Ny521.out] at ho4)); have n0_ := zA (Kd.R_lower (Kd.R_newM (M := fun k_ => (w.heap.size ≤ k_)) ho4 (below_size (uH HB.out)) (fun k_ h_ => h_)) (below_size (uH HB.out))); have n1_ := xB BK520 hb; have n2_ := xH HB hb; clear BK520 HB; have HO523 := n0_; have BK520 := n1_; have HB := n2_; clear n0_ n1_ n2_ hb ho4; obtain ⟨Ao5, co5, eo5⟩ := Kd.R_slice HO523.out; subst eo5) | ((with_reducible refine gate_dst (N := 9) rfl ?_); refine Kd.N_lit (Kd.slice 2 (Kd.int .i64)) _ 22 ?hg (N' := 9) ?hd (xs := ([y521] : List (List Int))) (inner := [.slice Ao5 y521.length co5]) (ok := (fun k_ => (w.heap.size ≤ k_) ∧ k_ ≠ gb520)) (okp := (fun k_ => (w.heap.size ≤ k_) ∧ k_ ≠ gb520)) ?hr ?hp (fun _ hk => hk) ((show ∀ k_, w3.heap.size ≤ k_ → (fun k_ => (w.heap.size ≤ k_) ∧ k_ ≠ gb520) k_ from fun k_ hk => ⟨(Nat.le_trans (below_size (uH HB.out)) hk), Kd.freshB (g := gb520) (o := .cells #[.int .i64 a0_0, .slice A0_1 l0_1.length c0_1, .slice A0_2 l0_2.length c0_2] 46 (0, 0)) (uB BK520.out) k_ hk⟩) _ (Nat.le_refl _)) (Below.refl _ _) (Nat.le_refl _) (by simp) ?_; (case hd => rfl); (case hg => rfl); (case hr => first | (go_simp; done) | (go_simp; rfl)); (case hp => exact (Reps.one (show Kd.FK (Kd.slice 2 (Kd.int .i64)) _ _ y521 [.slice Ao5 y521.length co5] from (Kd.FK_slice_mk (Kd.R_reads' (Kd.R_mono (ok' := (fun k_ => (w.heap.size ≤ k_) ∧ k_ ≠ gb520)) (Kd.R_types (HO523.out) BK520.out (by decide)) (fun k_ hk => ⟨hk.1.1, hk.2⟩))).2.1 (Kd.R_F (Kd.R_mono (ok' := (fun k_ => (w.heap.size ≤ k_) ∧ k_ ≠ gb520)) (Kd.R_types (HO523.out) BK520.out (by decide)) (fun k_ hk => ⟨hk.1.1, hk.2⟩))))) (Reps.none _ _))); intro v525 w6 ho7 hb hg_ hnew_; clear hg_ hnew_; (first | rw [← Ny524.out] at ho7 | (simp only [Int.reduceToNat] at ho7; rw [← Ny524.out] at ho7)); have n0_ := zA (Kd.N_lower ho7 (below_size (uH HB.out))); have n1_ := xB BK520 hb; have n2_ := xH HB hb; clear BK520 HB HO523; have HO526 := n0_; have BK520 := n1_; have HB := n2_; clear n0_ n1_ n2_ hb ho7; have hcz8_0 : w6.cell? ⟨gb520, 0, none⟩ = some (.int .i64 a0_0) := (blk_cell BK520.out 0).trans rfl; have hcz8_1 : w6.cell? ⟨gb520, 1, none⟩ = some (.slice A0_1 l0_1.length c0_1) := (blk_cell BK520.out 1).trans rfl; have hcz8_2 : w6.cell? ⟨gb520, 2, none⟩ = some (.slice A0_2 l0_2.length c0_2) := (blk_cell BK520.out 2).trans rfl; have hfz8_0 := blk_frozen BK520.out 0; have hfz8_1 := blk_frozen BK520.out 1; have hfz8_2 := blk_frozen BK520.out 2))
 go_loopg [3, 4, 13] k (fun kq v3 v4 v13 w' => ∃ (x3_1 : List (List Int)) (x4_1 : List Int) (x13_1 : Int), v13 = .int .i64 x13_1 ∧ Aside0 (impl_Jacobi_polys.l0 kq x3_1 x4_1 l0_1 (l0_1.length : Int) x13_1 a0_0 l0_1 l0_2 = some r) ∧ Aside0 (kq ≤ k) ∧ Aside0 (Kd.N (Kd.slice 2 (Kd.int .i64)) 22 w' w.heap.size (fun k_ => (w.heap.size ≤ k_) ∧ k_ ≠ gb520) v3 x3_1) ∧ Aside0 (Kd.V (Kd.int .i64) 2 w' w.heap.size (fun k_ => (w.heap.size ≤ k_) ∧ some k_ ≠ (v3 : Value).ownBlock ∧ k_ ≠ gb520) v4 x4_1) ∧ Aside0 (w'.heap[gb520]? = some (.cells #[.int .i64 a0_0, (.slice A0_1 l0_1.length c0_1), (.slice A0_2 l0_2.length c0_2)] 46 (0, 0))) ∧ Aside0 (Below w.heap.size w w'))
 case atStart => exact ⟨(y524), (([] : List Int)), (0), (by first | rfl | (simp; done) | (simp [*]; done)), H', ⟨Nat.le_refl _⟩, ⟨by (with_reducible repeat (first | apply Kd.N_alloc | apply Kd.N_drewN | apply Kd.N_drew)); exact HO526.out⟩, ⟨Kd.V_nil _ _ _ _ _⟩, ⟨uB BK520.out⟩, ⟨uH HB.out⟩⟩
 case round =>
  clear H'
  try clear p2
  try clear c7
  try clear hcz8_0
  try clear hcz8_1
  try clear hcz8_2
  try clear hfz8_0
  try clear hfz8_1
  try clear hfz8_2
  obtain ⟨x3_1, x4_1, x13_1, rfl, HA, HK1, HO_3, HO_4, BK520, HB⟩ := hrel
  cases gk with
  | zero => exact absurd HA.out (by simp [impl_Jacobi_polys.l0])
  | succ k1 =>
   have H := HA.out
   clear HA
   simp only [impl_Jacobi_polys.l0] at H
   by_cases c9 : x13_1 < (l0_1.length : Int)
   ·rw [if_pos c9] at H
    have c9b0 : decide (x13_1 < (l0_1.length : Int)) = true := decide_eq_true c9
    clear c9
    by_cases c10 : 0 ≤ x13_1
    ·rw [if_pos c10] at H
     have c10b0 : decide (0 ≤ x13_1) = true := decide_eq_true c10
     clear c10
     by_cases c11 : x13_1 < (l0_1.length : Int)
     ·rw [if_pos c11] at H
      have c11b0 : decide (x13_1 < (l0_1.length : Int)) = true := decide_eq_true c11
      clear c11
      by_cases c12 : x13_1 < (x3_1.length : Int)
      ·rw [if_pos c12] at H
       have c12b0 : decide (x13_1 < (x3_1.length : Int)) = true := decide_eq_true c12
       clear c12
       replace H := Option.bind_eq_some_iff.mp H
       obtain ⟨t529, A130, H⟩ := H
       replace H : (if x13_1 < (l0_2.length : Int) then ((impl_field_next.f k1 t529 (rd l0_1 x13_1) (rd l0_2 x13_1) (rd_L1 x3_1 x13_1) x4_1).bind fun t531 => (if x3_1.length < 5864062014805 then (impl_Jacobi_polys.l0 k1 (x3_1 ++ [t531]) (rd_L1 x3_1 x13_1) l0_1 (l0_1.length : Int) (wrap64 (x13_1 + 1)) a0_0 l0_1 l0_2) else (none))) else (none)) = some r := H
       have A13 := zA A130
       clear A130
       by_cases c14 : x13_1 < (l0_2.length : Int)
       ·rw [if_pos c14] at H
        have c14b0 : decide (x13_1 < (l0_2.length : Int)) = true := decide_eq_true c14
        clear c14
        replace H := Option.bind_eq_some_iff.mp H
        obtain ⟨t531, A150, H⟩ := H
        replace H : (if x3_1.length < 5864062014805 then (impl_Jacobi_polys.l0 k1 (x3_1 ++ [t531]) (rd_L1 x3_1 x13_1) l0_1 (l0_1.length : Int) (wrap64 (x13_1 + 1)) a0_0 l0_1 l0_2) else (none)) = some r := H
        have A15 := zA A150
        clear A150
        by_cases c16 : x3_1.length < 5864062014805
        ·rw [if_pos c16] at H
         have LMc16 := zA c16
         clear c16
         obtain ⟨y534, hy534⟩ : ∃ y_ : List (List Int), y_ = (x3_1 ++ [t531]) := ⟨_, rfl⟩
         replace H : (impl_Jacobi_polys.l0 k1 y534 (rd_L1 x3_1 x13_1) l0_1 (l0_1.length : Int) (wrap64 (x13_1 + 1)) a0_0 l0_1 l0_2) = some r := by first | (rw [hy534]; with_reducible exact H) | (have H2_ := (Option.bind_some _ _).symm.trans H; rw [hy534]; with_reducible exact H2_) | (have H2_ := (Option.bind_some _ _).symm.trans H; with_reducible exact H2_) | with_reducible exact H | (rw [hy534]; exact H) | exact H
         have Ny534 := zA hy534
         clear hy534
         have H' := zA H
         clear H
         have p527 : 0 ≤ (x13_1 : Int) := of_decide_eq_true (by first | (with_reducible assumption) | assumption)
         have q527 : x13_1 < (l0_1.length : Int) := of_decide_eq_true (by first | (with_reducible assumption) | assumption)
         obtain ⟨ad527, e527, hx527_0⟩ := Kd.at_int HR0_1.out x13_1 p527 q527
         cases e527
         replace hx527_0 := (HB.out.cell (World.block_lt_of_cell? w _ hx527_0)).trans hx527_0
         replace p527 := eq_true p527
         replace q527 := eq_true q527
         obtain ⟨Ao17, co17, eo17⟩ := Kd.N_slice HO_3.out
         subst eo17
         have p528 : 0 ≤ (x13_1 : Int) := of_decide_eq_true (by first | (with_reducible assumption) | assumption)
         have q528 : x13_1 < (x3_1.length : Int) := of_decide_eq_true (by first | (with_reducible assumption) | assumption)
         obtain ⟨ad528, A528_0, c528_0, e528, hx528_0, hl528_0, hi528_0⟩ := at_L1 (Kd.N_reads' HO_3.out).2.2 x13_1 p528 q528
         cases e528
         obtain ⟨ce528, hce528, hMe528, hcc528⟩ := Kd.N_get HO_3.out [] x13_1 p528 (by first | exact q528 | exact of_decide_eq_true (by first | (with_reducible assumption) | assumption) | (have e_ := (Kd.N_reads' HO_3.out).1; omega))
         obtain ⟨ua528_0, uc528_0, rfl, ul528_0, ge528_0⟩ := Kd.FK_slice_open hMe528
         have hv528_0 := hcc528 0 _ rfl
         rw [Nat.add_zero, show ((Kd.slice 2 (Kd.int .i64))).sz = 1 from rfl, Nat.mul_one] at hv528_0
         replace hv528_0 := Option.some.inj (hv528_0.symm.trans hx528_0)
         injection hv528_0 with hva_ hvn_ hvc_
         rw [hva_] at ge528_0
         rw [hvc_] at ul528_0
         have HL528_0 := zA (show Kd.V (Kd.int .i64) 2 _ w.heap.size _ _ (rd_L1 x3_1 x13_1) from Kd.V_mk ul528_0 ge528_0)
         clear hva_ hvn_ hvc_ ge528_0 ul528_0
         clear hcc528 hce528
         have HR528_0 := zA hi528_0
         have HC528_0 := zA hl528_0
         clear hi528_0 hl528_0
         replace p528 := eq_true p528
         replace q528 := eq_true q528
         try go_wp2
         have n0_ := zA (Kd.N_drew HO_3.out)
         have n1_ := zA (Kd.V_drew HO_4.out)
         have n2_ := zA (Kd.V_drew HL528_0.out)
         have n3_ := zA (blk_drew BK520.out)
         have n4_ := zA (Kd.C_drew HR528_0.out)
         have n5_ := zA (below_drew1 HB.out)
         clear HO_3 HO_4 HL528_0 BK520 HR528_0 HB
         have HO_3 := n0_; have HO_4 := n1_; have HL528_0 := n2_; have BK520 := n3_; have HR528_0 := n4_; have HB := n5_
         clear n0_ n1_ n2_ n3_ n4_ n5_
         have p530 : 0 ≤ (x13_1 : Int) := of_decide_eq_true (by first | (with_reducible assumption) | assumption)
         have q530 : x13_1 < (l0_2.length : Int) := of_decide_eq_true (by first | (with_reducible assumption) | assumption)
         obtain ⟨ad530, e530, hx530_0⟩ := Kd.at_int HR0_2.out x13_1 p530 q530
         have hw530_0 := hx530_0
         cases e530
         replace hx530_0 := (HB.out.cell (World.block_lt_of_cell? w _ hx530_0)).trans hx530_0
         replace p530 := eq_true p530
         replace q530 := eq_true q530
         refine start_ (n := 15) (S := fun w' => w'.cell? ⟨gb520, 0, none⟩ = some (.int .i64 a0_0) ∧ w'.cell? ⟨gb520, 1, none⟩ = some (.slice (some ad527) l0_1.length c0_1) ∧ w'.cell? ⟨gb520, 2, none⟩ = some (.slice (some ad530) l0_2.length c0_2) ∧ w'.cell? (ad530.add (x13_1).toNat) = some (.int .i64 (rd l0_2 x13_1))) (ds := []) #[false, false, false, false, false, false, false, false, false, false, false, false, false, false, false] (by kernel_rfl) rfl rfl ⟨(blk_cell BK520.out 0).trans rfl, (blk_cell BK520.out 1).trans rfl, (blk_cell BK520.out 2).trans rfl, ((HB.out.cell (World.block_lt_of_cell? w _ hw530_0)).trans hw530_0)⟩ (fun hHeld => ?_); refine with_tabW impl_Jacobi_polys.tab7 impl_Jacobi_polys.bits7 (fun HT_ HW_ => ?_)
         generalize wr.drew = w18 at HO_3 HO_4 HL528_0 BK520 HR528_0 HB hx530_0 hHeld ⊢
         refine pu_ 0 22 (bl 15 1) HT_ ?_
         refine pu_ 3 25 (bl 15 9) HT_ ?_
         refine pu_ 4 26 (bl 15 25) HT_ ?_
         refine pu_ 6 28 (bl 15 89) HT_ ?_
         refine pu_ 9 31 (bl 15 601) HT_ ?_
         refine pu_ 10 32 (bl 15 1625) HT_ ?_
         refine ta_ 1 23 (bl 15 1627) HT_ HW_ hHeld ?_
         refine ta_ 5 27 (bl 15 1659) HT_ HW_ hHeld ?_
         refine pu_ 7 29 (bl 15 1787) HT_ ?_
         refine ta_ 8 30 (bl 15 2043) HT_ HW_ hHeld ?_
         refine on_ 2 (some 24) (bl 15 2047) HT_ (fun K hK => ?_)
         refine goes_ Try.func76 (by kernel_rfl) rfl #[.agg #[.int .i64 a0_0, .slice (some ad527) l0_1.length c0_1, .slice (some ad530) l0_2.length c0_2]] (by rfl) rfl rfl (by (try simp only [la, lb, lc]); first | done | rfl | (simp only [ld, le]; rfl)) ?_
         with_reducible refine (impl_Jacobi_field.calls a0_0 _ _ l0_1 _ _ l0_2 t529 _ ?side1 ?side2 ?side3 ?side4 A13.out).mono ?_
         (case side1 => exact uC ((Kd.C_below HR0_1.out HB.out)))
         (case side2 => exact HC0_1.out)
         (case side3 => exact uC ((Kd.C_below HR0_2.out HB.out)))
         (case side4 => exact HC0_2.out)
         rintro e w19 ⟨rfl, hb⟩
         refine ⟨_, rfl, ?_⟩
         have n0_ := zA (Kd.N_below (by (with_reducible repeat (first | apply Kd.N_alloc | apply Kd.N_drewN | apply Kd.N_drew)); exact HO_3.out) hb)
         have n1_ := zA (Kd.V_below (by (with_reducible repeat (first | apply Kd.V_alloc | apply Kd.V_drewN | apply Kd.V_drew)); exact HO_4.out) hb)
         have n2_ := zA (Kd.V_below (by (with_reducible repeat (first | apply Kd.V_alloc | apply Kd.V_drewN | apply Kd.V_drew)); exact HL528_0.out) hb)
         have n3_ := xB BK520 hb
         have n4_ := zA (Kd.C_below (by repeat (first | (with_reducible exact HR528_0.out) | (with_reducible refine Kd.C_alloc ?_ _) | (with_reducible refine Kd.C_drewN ?_ _) | (with_reducible refine Kd.C_drew ?_) | exact HR528_0.out)) hb)
         have n5_ := xH HB hb
         clear HO_3 HO_4 HL528_0 BK520 HR528_0 HB
         have HO_3 := n0_; have HO_4 := n1_; have HL528_0 := n2_; have BK520 := n3_; have HR528_0 := n4_; have HB := n5_
         clear n0_ n1_ n2_ n3_ n4_ n5_
         (try clear hb); (try clear hb2); (try clear hk); (try clear hi)
         obtain ⟨Ao20, co20, eo20⟩ := Kd.V_slice HO_4.out
         (first | subst eo20 | (injection eo20 with f1_ f2_ f3_; have f4_ := f1_.symm; have f5_ := f3_.symm; clear f1_ f2_ f3_; subst f4_; subst f5_))
         refine hK.out _ _ ⟨(blk_cell BK520.out 0).trans rfl, (blk_cell BK520.out 1).trans rfl, (blk_cell BK520.out 2).trans rfl, ((HB.out.cell (World.block_lt_of_cell? w _ hw530_0)).trans hw530_0)⟩ (fun hHeld => ?_)
         clear hK K
         refine no_ 24 ?_
         refine on_ 11 (some 33) (bl 15 4095) HT_ (fun K hK => ?_)
         refine goes_ Try.func139 (by kernel_rfl) rfl #[.int .i64 t529, .int .i64 (rd l0_1 x13_1), .int .i64 (rd l0_2 x13_1), .slice A528_0 (rd_L1 x3_1 x13_1).length c528_0, .slice Ao20 x4_1.length co20] (by rfl) rfl rfl (by (try simp only [la, lb, lc]); first | done | rfl | (simp only [ld, le]; rfl)) ?_
         with_reducible refine (impl_field_next.calls k1 t529 (rd l0_1 x13_1) (rd l0_2 x13_1) _ _ (rd_L1 x3_1 x13_1) _ _ x4_1 t531 _ ?side1 ?side2 ?side3 ?side4 A15.out).mono ?_
         (case side1 => repeat (first | exact (by repeat (first | (with_reducible exact HR528_0.out) | (with_reducible refine Kd.C_alloc ?_ _) | (with_reducible refine Kd.C_drewN ?_ _) | (with_reducible refine Kd.C_drew ?_) | exact HR528_0.out)) | (with_reducible refine Kd.C_alloc ?_ _) | (with_reducible refine Kd.C_drewN ?_ _) | (with_reducible refine Kd.C_drew ?_)))
         (case side2 => exact HC528_0.out)
         (case side3 => exact uC ((Kd.V_reads' HO_4.out).2.2))
         (case side4 => exact (Kd.V_reads' HO_4.out).2.1)
         rintro e w21 ⟨v532, rfl, ho0, hb⟩
         refine ⟨_, rfl, ?_⟩
         have n0_ := zA (Kd.N_elder' (by (with_reducible repeat (first | apply Kd.N_alloc | apply Kd.N_drewN | apply Kd.N_drew)); exact HO_3.out) (Kd.R_base ho0) hb)
         have n1_ := zA (Kd.V_elder' (by (with_reducible repeat (first | apply Kd.V_alloc | apply Kd.V_drewN | apply Kd.V_drew)); exact HO_4.out) (Kd.R_base ho0) hb)
         have n2_ := zA (Kd.V_elder' (by (with_reducible repeat (first | apply Kd.V_alloc | apply Kd.V_drewN | apply Kd.V_drew)); exact HL528_0.out) (Kd.R_base ho0) hb)
         have n3_ := zA (Kd.R_lower (Kd.R_newM (M := fun k_ => (w.heap.size ≤ k_)) ho0 (below_size (uH HB.out)) (fun k_ h_ => h_)) (below_size (uH HB.out)))
         have n4_ := xB BK520 hb
         have n5_ := zA (Kd.C_below (by repeat (first | (with_reducible exact HR528_0.out) | (with_reducible refine Kd.C_alloc ?_ _) | (with_reducible refine Kd.C_drewN ?_ _) | (with_reducible refine Kd.C_drew ?_) | exact HR528_0.out)) hb)
         have n6_ := xH HB hb
         clear HO_3 HO_4 HL528_0 BK520 HR528_0 HB
         have HO_3 := n0_; have HO_4 := n1_; have HL528_0 := n2_; have HO533 := n3_; have BK520 := n4_; have HR528_0 := n5_; have HB := n6_
         clear n0_ n1_ n2_ n3_ n4_ n5_ n6_
         (try clear hb); (try clear hb2); (try clear hk); (try clear hi); (try clear ho0)
         obtain ⟨Ao23, co23, eo23⟩ := Kd.R_slice HO533.out
         (first | subst eo23 | (injection eo23 with f1_ f2_ f3_; have f4_ := f1_.symm; have f5_ := f3_.symm; clear f1_ f2_ f3_; subst f4_; subst f5_))
         refine hK.out _ _ ⟨(blk_cell BK520.out 0).trans rfl, (blk_cell BK520.out 1).trans rfl, (blk_cell BK520.out 2).trans rfl, ((HB.out.cell (World.block_lt_of_cell? w _ hw530_0)).trans hw530_0)⟩ (fun hHeld => ?_)
         clear hK K
         refine no_ 33 ?_
         refine on_ 12 (some 34) (bl 15 8191) HT_ (fun K hK => ?_)
         refine value_ (w1 := ?_) (v := ?_) (by rfl) rfl ?_ ?_
         rotate_left 2
         ·go_simp
          constructor
          ·rfl
          ·rfl
         refine hK.out _ _ ⟨(blk_cell (blk_alloc BK520.out _) 0).trans rfl, (blk_cell (blk_alloc BK520.out _) 1).trans rfl, (blk_cell (blk_alloc BK520.out _) 2).trans rfl, (World.cell?_alloc_lt _ _ _ (World.block_lt_of_cell? _ _ (((HB.out.cell (World.block_lt_of_cell? w _ hw530_0)).trans hw530_0)))).trans (((HB.out.cell (World.block_lt_of_cell? w _ hw530_0)).trans hw530_0))⟩ (fun hHeld => ?_)
         clear hK K
         refine no_ 34 ?_
         refine on_ 13 (some 35) (bl 15 16383) HT_ (fun K hK => ?_)
         refine Kd.N_append_step (Kd.slice 2 (Kd.int .i64)) (w0 := w) w.heap.size (by rfl) (.tmp 22) (.tmp 34) 89 22 (.slice none 0 0) 24 rfl Try.underlying89 info22 rfl (by decide) (by omega) (.slice (some ad528) x3_1.length co17) x3_1 t531 [.slice Ao23 t531.length co23] (fun k_ => (w.heap.size ≤ k_) ∧ k_ ≠ gb520) (fun k_ => ((fun k_ => (w.heap.size ≤ k_) ∧ k_ ≠ gb520)) k_ ∧ some k_ ≠ (.slice (some ad528) x3_1.length co17 : Value).ownBlock) rfl rfl ?aP (fun _ hk => hk) ?aF ?aO ?aB ?aS ?aL ?_
         (case aP => exact (Kd.FK_slice_mk (Kd.R_reads' (Kd.R_mono (ok' := (fun k_ => ((fun k_ => (w.heap.size ≤ k_) ∧ k_ ≠ gb520)) k_ ∧ some k_ ≠ (.slice (some ad528) x3_1.length co17 : Value).ownBlock)) (Kd.R_types (Kd.R_apart' (HO533.out) (Kd.N_typed HO_3.out) (by decide)) BK520.out (by decide)) (fun k_ hk => ⟨⟨hk.1.1.1, hk.2⟩, hk.1.2⟩))).2.1 (Kd.R_F (Kd.R_mono (ok' := (fun k_ => ((fun k_ => (w.heap.size ≤ k_) ∧ k_ ≠ gb520)) k_ ∧ some k_ ≠ (.slice (some ad528) x3_1.length co17 : Value).ownBlock)) (Kd.R_types (Kd.R_apart' (HO533.out) (Kd.N_typed HO_3.out) (by decide)) BK520.out (by decide)) (fun k_ hk => ⟨⟨hk.1.1.1, hk.2⟩, hk.1.2⟩)))))
         (case aB => exact (uH HB.out))
         (case aF => exact (fun k_ hk => ⟨(Nat.le_trans (below_size (uH HB.out)) hk), Kd.freshB (g := gb520) (o := .cells #[.int .i64 a0_0, .slice (some ad527) l0_1.length c0_1, .slice (some ad530) l0_2.length c0_2] 46 (0, 0)) (uB BK520.out) k_ hk⟩))
         (case aO => exact (by (with_reducible repeat (first | apply Kd.N_alloc | apply Kd.N_drewN | apply Kd.N_drew)); exact Kd.N_mono HO_3.out (fun _ hk => ⟨hk.1.1, hk.1.2⟩)))
         (case aS => exact (below_size (uH HB.out)))
         (case aL => have := LMc16.out; omega)
         intro v535 w22 ho hb hg hat
         rw [← Ny534.out] at ho
         have n0_ := zA (Kd.V_afterv (ok := (fun k_ => (w.heap.size ≤ k_) ∧ some k_ ≠ (.slice Ao23 t531.length co23 : Value).ownBlock ∧ k_ ≠ gb520)) (by (with_reducible repeat (first | apply Kd.V_alloc | apply Kd.V_drewN | apply Kd.V_drew)); exact Kd.V_mono HO_4.out (fun _ hk => ⟨⟨hk.1.1, ⟨hk.2, hk.1.2.2⟩⟩, hk.1.2.1⟩)) hg hat)
         have n1_ := zA (blk_grown (g := gb520) (o := .cells #[.int .i64 a0_0, .slice (some ad527) l0_1.length c0_1, .slice (some ad530) l0_2.length c0_2] 46 (0, 0)) (uB BK520.out) hg (Kd.N_ne HO_3.out BK520.out (by decide)))
         have n2_ := zA (Kd.V_afterv (ok := (fun k_ => (w.heap.size ≤ k_) ∧ some k_ ≠ (.slice Ao23 t531.length co23 : Value).ownBlock ∧ k_ ≠ gb520)) (by (with_reducible repeat (first | apply Kd.V_alloc | apply Kd.V_drewN | apply Kd.V_drew)); exact Kd.V_mono HL528_0.out (fun _ hk => ⟨⟨hk.1.1.1, ⟨hk.2, hk.1.1.2⟩⟩, hk.1.2⟩)) hg hat)
         have n3_ := zA (hb)
         have n4_ := zA (ho)
         clear HO_4 BK520 HL528_0 HB HO_3 HO533
         have HO_4 := n0_; have BK520 := n1_; have HL528_0 := n2_; have HB := n3_; have HO536 := n4_
         clear n0_ n1_ n2_ n3_ n4_
         clear ho hb hg hat
         refine hK.out _ _ ⟨(blk_cell BK520.out 0).trans rfl, (blk_cell BK520.out 1).trans rfl, (blk_cell BK520.out 2).trans rfl, ((HB.out.cell (World.block_lt_of_cell? w _ hw530_0)).trans hw530_0)⟩ (fun hHeld => ?_)
         clear hK K
         refine no_ 35 ?_
         refine pu_ 14 3 (bl 15 32767) HT_ ?_
         refine done_ (done_of HT_.out (by kernel_rfl)) ?_
         try go_wp2
         go_roundg k1
         case measure => have := HK1.out; omega
         case rel => exact ⟨(y534), (rd_L1 x3_1 x13_1), (wrap64 (x13_1 + 1)), (by first | rfl | (simp; done) | (simp [*]; done)), H', ⟨by have := HK1.out; omega⟩, ⟨by (with_reducible repeat (first | apply Kd.N_alloc | apply Kd.N_drewN | apply Kd.N_drew)); exact HO536.out⟩, ⟨by (with_reducible repeat (first | apply Kd.V_alloc | apply Kd.V_drewN | apply Kd.V_drew)); exact Kd.V_mono HL528_0.out (fun _ hk => ⟨hk.1.1, ⟨hk.2, hk.1.2.2⟩⟩)⟩, ⟨uB BK520.out⟩, ⟨uH HB.out⟩⟩
        ·rw [if_neg c16] at H
         exact absurd H (by simp)
       ·rw [if_neg c14] at H
        exact absurd H (by simp)
      ·rw [if_neg c12] at H
       exact absurd H (by simp)
     ·rw [if_neg c11] at H
      exact absurd H (by simp)
    ·rw [if_neg c10] at H
     exact absurd H (by simp)
   ·rw [if_neg c9] at H
    have c9b0 : decide (x13_1 < (l0_1.length : Int)) = false := decide_eq_false c9
    clear c9
    obtain rfl := Option.some.inj H
    go_wp2
    go_ret
    exact ⟨_, by first | rfl | (simp [errW_none, errW_some] <;> rfl) | (simp [*, errW_none, errW_some] <;> rfl), by (with_reducible repeat (first | apply Kd.N_alloc | apply Kd.N_drewN | apply Kd.N_drew)); exact Kd.N_mono HO_3.out (fun _ hk => hk.1), uH HB.out⟩

end Go.Proofs.Ytokkabgkjhpecaa.Pr
