/- Texts of this session in one: what functions of the program compute, and plain facts of it, under the conditions that each theorem names. -/
import Derived.Test.YtcfiegapclbenaaKFimplAreMoments
import Derived.Test.YtcfiegapclbenaaKC01
import Derived.Test.YtcfiegapclbenaaKC02
import Derived.Test.YtcfiegapclbenaaKC03
/- Printed by a program of this session out of the translation: what these functions of the program compute, under the conditions that each theorem names. -/
namespace Go.Proofs.Ytcfiegapclbenaa.Pr
open Go.RowKit Go.Proofs.YtcfiegapclbenaaW.PrintWords Go.Proofs.YtcfiegapclbenaaW.PrintLast Go.Proofs.YtcfiegapclbenaaW.PrintMore
attribute [local go_sem] max2_int min2_int max_two min_two max_three min_three max_four min_four   -- for this text's walks alone
set_option linter.unusedVariables false
set_option linter.unusedSimpArgs false

/-! ### impl_momentsCode: function 38 -/
def impl_momentsCode.f (k : Nat) (a0_0 : Int) (l0_1 : List Int) (a1 : Bool) (l2 : List (List Int)) : Option (Int) := (impl_AreMoments.f k a0_0 l0_1).bind fun t226 => (if t226 = true then ((impl_polyCode.f k a0_0 a1 l2).bind fun t227 => (some t227)) else (some 1))
theorem impl_momentsCode.mono : ∀ a0 a1 a2 a3 k, LeO (impl_momentsCode.f k a0 a1 a2 a3) (impl_momentsCode.f (k + 1) a0 a1 a2 a3) := by
 intro a0 a1 a2 a3 k
 unfold impl_momentsCode.f
 repeat' first
   | (with_reducible exact impl_AreMoments.mono _ _ _)
   | (with_reducible exact impl_polyCode.mono _ _ _ _)
   | (with_reducible exact LeO.refl _)
   | (with_reducible exact LeO.none _)
   | (with_reducible refine LeO.ite ?_ ?_)
   | (with_reducible refine LeO.bind ?_ (fun _ => ?_))
   | exact impl_AreMoments.mono _ _ _
   | exact impl_polyCode.mono _ _ _ _
   | exact LeO.none _
   | refine LeO.ite ?_ ?_
   | refine LeO.bind ?_ (fun _ => ?_)
set_option maxHeartbeats 8000000 in
set_option maxRecDepth 100000 in
theorem impl_momentsCode.calls (k : Nat) (a0_0 : Int) (A0_1 : Option Addr) (c0_1 : Nat) (l0_1 : List Int) (F1 : Value) (a1 : Bool) (A2 : Option Addr) (c2 : Nat) (l2 : List (List Int)) (r : Int) (w : World) (hr0_1 : Kd.C (Kd.int .i64) w A0_1 l0_1.length l0_1) (hc0_1 : l0_1.length ≤ c0_1) (hF1 : FnB Try.prog w F1 a1) (hr2 : Kd.C (Kd.slice 2 (Kd.int .i64)) w A2 l2.length l2) (hc2 : l2.length ≤ c2) (h : impl_momentsCode.f k a0_0 l0_1 a1 l2 = some r) :
  Calls Try.prog 38 #[.agg #[.int .i64 a0_0, .slice A0_1 l0_1.length c0_1], F1, .slice A2 l2.length c2] w fun e w' => e = .returned (.int .i64 r) ∧ Below w.heap.size w w' := by
 have hu36 := Try.underlying36
 have HR0_1 := zA hr0_1
 have HC0_1 := zA hc0_1
 clear hr0_1 hc0_1
 obtain ⟨G1, fi1, ca1, rfl, hen1, hF1⟩ := hF1
 have hen1 : ∀ (args_ : Array Value) (w_ : World), (callFunc G1 args_).run Try.prog w_ = .ok (.enter G1 args_) w_ := hen1
 have HF1 := zA hF1
 clear hF1
 have HR2 := zA hr2
 have HC2 := zA hc2
 clear hr2 hc2
 have HB := zA (Below.refl w.heap.size w)
 have H : ((impl_AreMoments.f k a0_0 l0_1).bind fun t226 => (if t226 = true then ((impl_polyCode.f k a0_0 a1 l2).bind fun t227 => (some t227)) else (some 1))) = some r := h
 clear h
 replace H := Option.bind_eq_some_iff.mp H
 obtain ⟨t226, A40, H⟩ := H
 replace H : (if t226 = true then ((impl_polyCode.f k a0_0 a1 l2).bind fun t227 => (some t227)) else (some 1)) = some r := H
 have A4 := zA A40
 clear A40
 by_cases c5 : t226 = true
 ·subst c5
  have H1 : ((impl_polyCode.f k a0_0 a1 l2).bind fun t227 => (some t227)) = some r := by rw [if_pos rfl] at H; exact H
  clear H
  have H := H1
  clear H1
  replace H := Option.bind_eq_some_iff.mp H
  obtain ⟨t227, A60, H⟩ := H
  replace H : (some t227) = some r := H
  have A6 := zA A60
  clear A60
  obtain rfl := Option.some.inj H
  go_enter Try.func38, Try.ntmps38
  go_wp2_with (first | ((with_reducible refine gate_dst (N := 3) rfl ?_); refine box_event ?hg (N := 3) ?hd (cs := #[.int .i64 a0_0, .slice A0_1 l0_1.length c0_1]) (t := 36) ?hr ?_; (case hd => rfl); (case hg => rfl); (case hr => first | (go_simp; done) | (go_simp; rfl)); intro gb225 hg w7 hbox hb; have n0_ := xH HB hb; have n1_ := zA (hbox); have n2_ := zA ((by rw [hg]; exact (below_size (uH HB.out)) : w.heap.size ≤ gb225)); have n3_ := zA ((by rw [hg]; exact (below_size (uH HB.out)) : w.heap.size ≤ gb225)); clear HB; have HB := n0_; have BK225 := n1_; have GW225 := n2_; have GE225 := n3_; have := geI GE225; clear n0_ n1_ n2_ n3_ hb hbox hg; have hcz8_0 : w7.cell? ⟨gb225, 0, none⟩ = some (.int .i64 a0_0) := (blk_cell BK225.out 0).trans rfl; have hcz8_1 : w7.cell? ⟨gb225, 1, none⟩ = some (.slice A0_1 l0_1.length c0_1) := (blk_cell BK225.out 1).trans rfl; have hfz8_0 := blk_frozen BK225.out 0; have hfz8_1 := blk_frozen BK225.out 1) | ((with_reducible refine gate_callee (f := 44) rfl ?_); refine goesL_ (some 8) rfl rfl Try.func44 (by kernel_rfl) rfl #[.agg #[.int .i64 a0_0, .slice A0_1 l0_1.length c0_1]] rfl (by (try simp only [List.map_toArray, List.map_cons, List.map_nil]); first | done | rfl | (simp only [List.length_drop, List.length_take]; rfl)) ?_; (with_reducible refine (impl_AreMoments.calls k a0_0 _ _ l0_1 true _ ?side1 ?side2 A4.out).mono ?_); (case side1 => exact uC ((Kd.C_below HR0_1.out HB.out))); (case side2 => exact HC0_1.out); rintro e w9 ⟨rfl, hb⟩; refine ⟨_, rfl, ?_⟩; have n0_ := xB BK225 hb; have n1_ := xH HB hb; clear BK225 HB; have BK225 := n0_; have HB := n1_; clear n0_ n1_; (try clear hb); (try clear hb2); (try clear hk); (try clear hi); have hcz10_0 : w9.cell? ⟨gb225, 0, none⟩ = some (.int .i64 a0_0) := (blk_cell BK225.out 0).trans rfl; have hcz10_1 : w9.cell? ⟨gb225, 1, none⟩ = some (.slice A0_1 l0_1.length c0_1) := (blk_cell BK225.out 1).trans rfl; have hfz10_0 := blk_frozen BK225.out 0; have hfz10_1 := blk_frozen BK225.out 1) | ((with_reducible refine gate_callee (f := 62) rfl ?_); refine goesL_ (some 14) rfl rfl Try.func62 (by kernel_rfl) rfl #[.int .i64 a0_0, (.func (.func G1) fi1 ca1), .slice A2 l2.length c2] rfl (by (try simp only [List.map_toArray, List.map_cons, List.map_nil]); first | done | rfl | (simp only [List.length_drop, List.length_take]; rfl)) ?_; (with_reducible refine (impl_polyCode.calls k a0_0 _ a1 _ _ l2 t227 _ ?side1 ?side2 ?side3 A6.out).mono ?_); (case side1 => exact FnB.later (uH HB.out) (show FnB Try.prog w (.func (.func G1) fi1 ca1) a1 from ⟨_, _, _, rfl, hen1, HF1.out⟩)); (case side2 => exact uC ((Kd.C_below HR2.out HB.out))); (case side3 => exact HC2.out); rintro e w11 ⟨rfl, hb⟩; refine ⟨_, rfl, ?_⟩; have n0_ := xB BK225 hb; have n1_ := xH HB hb; clear BK225 HB; have BK225 := n0_; have HB := n1_; clear n0_ n1_; (try clear hb); (try clear hb2); (try clear hk); (try clear hi)))
  go_ret
  exact ⟨by first | rfl | (simp [errW_none, errW_some] <;> rfl) | (simp [*, errW_none, errW_some] <;> rfl), uH HB.out⟩
 ·replace c5 := Bool.eq_false_iff.mpr c5
  subst c5
  have H1 : (some 1) = some r := by rw [if_neg (show ¬ (false = true) by decide)] at H; exact H
  clear H
  have H := H1
  clear H1
  obtain rfl := Option.some.inj H
  go_enter Try.func38, Try.ntmps38
  go_wp2_with (first | ((with_reducible refine gate_dst (N := 3) rfl ?_); refine box_event ?hg (N := 3) ?hd (cs := #[.int .i64 a0_0, .slice A0_1 l0_1.length c0_1]) (t := 36) ?hr ?_; (case hd => rfl); (case hg => rfl); (case hr => first | (go_simp; done) | (go_simp; rfl)); intro gb225 hg w12 hbox hb; have n0_ := xH HB hb; have n1_ := zA (hbox); have n2_ := zA ((by rw [hg]; exact (below_size (uH HB.out)) : w.heap.size ≤ gb225)); have n3_ := zA ((by rw [hg]; exact (below_size (uH HB.out)) : w.heap.size ≤ gb225)); clear HB; have HB := n0_; have BK225 := n1_; have GW225 := n2_; have GE225 := n3_; have := geI GE225; clear n0_ n1_ n2_ n3_ hb hbox hg; have hcz13_0 : w12.cell? ⟨gb225, 0, none⟩ = some (.int .i64 a0_0) := (blk_cell BK225.out 0).trans rfl; have hcz13_1 : w12.cell? ⟨gb225, 1, none⟩ = some (.slice A0_1 l0_1.length c0_1) := (blk_cell BK225.out 1).trans rfl; have hfz13_0 := blk_frozen BK225.out 0; have hfz13_1 := blk_frozen BK225.out 1) | ((with_reducible refine gate_callee (f := 44) rfl ?_); refine goesL_ (some 8) rfl rfl Try.func44 (by kernel_rfl) rfl #[.agg #[.int .i64 a0_0, .slice A0_1 l0_1.length c0_1]] rfl (by (try simp only [List.map_toArray, List.map_cons, List.map_nil]); first | done | rfl | (simp only [List.length_drop, List.length_take]; rfl)) ?_; (with_reducible refine (impl_AreMoments.calls k a0_0 _ _ l0_1 false _ ?side1 ?side2 A4.out).mono ?_); (case side1 => exact uC ((Kd.C_below HR0_1.out HB.out))); (case side2 => exact HC0_1.out); rintro e w14 ⟨rfl, hb⟩; refine ⟨_, rfl, ?_⟩; have n0_ := xB BK225 hb; have n1_ := xH HB hb; clear BK225 HB; have BK225 := n0_; have HB := n1_; clear n0_ n1_; (try clear hb); (try clear hb2); (try clear hk); (try clear hi)))
  go_ret
  exact ⟨by first | rfl | (simp [errW_none, errW_some] <;> rfl) | (simp [*, errW_none, errW_some] <;> rfl), uH HB.out⟩

end Go.Proofs.Ytcfiegapclbenaa.Pr
/- Primes, numbers modulo p, polynomials, moments: what the program and the reference compute of them. -/
namespace Go.Proofs.Ytcfiegapclbenaa.Pr
open Go.RowKit Go.Proofs.YtcfiegapclbenaaW.PrintWords Go.Proofs.YtcfiegapclbenaaW.PrintLast Go.Proofs.YtcfiegapclbenaaW.PrintMore

theorem in_eq (a b c : Int) : spec_l01In.f a b c = some (decide (b ≤ a ∧ a ≤ c)) := by
  unfold spec_l01In.f
  by_cases h : b ≤ a
  · rw [if_pos h]; simp [h]
  · rw [if_neg h]; simp [h]
theorem within_eq (a b c : Int) : impl_within.f a b c = some (decide (b ≤ a ∧ a ≤ c)) := by
  unfold impl_within.f
  by_cases h : b ≤ a
  · rw [if_pos h]; simp [h]
  · rw [if_neg h]; simp [h]
theorem has_eq (p x : Int) : impl_field_has.f p x = some (decide (0 ≤ x ∧ x < p)) := by
  unfold impl_field_has.f
  by_cases h : 0 ≤ x
  · rw [if_pos h]; simp [h]
  · rw [if_neg h]; simp [h]
theorem mod_eq {p : Int} (hp : Pm p) (x : Int) : impl_field_mod.f p x = some (x % p) := by
  unfold impl_field_mod.f
  rw [if_neg hp.ne, go_mod hp]

/-! ### primes -/
def noDiv (p : Int) (i : Nat) : Prop := ∀ j, j < 101 → i ≤ j → (j : Int) * (j : Int) ≤ p → p % (j : Int) ≠ 0
instance (p : Int) (i : Nat) : Decidable (noDiv p i) := by unfold noDiv; infer_instance
def primeB (p : Int) : Bool := decide (2 ≤ p ∧ p ≤ 10007) && decide (noDiv p 2)
theorem primeB.pm {p : Int} (h : primeB p = true) : Pm p := by
  simp only [primeB, Bool.and_eq_true, decide_eq_true_eq] at h
  exact ⟨h.1.1, h.1.2⟩
theorem noDiv_succ {p : Int} {i : Nat} (h : p % (i : Int) ≠ 0) : decide (noDiv p i) = decide (noDiv p (i + 1)) := by
  apply decide_eq_decide.2
  constructor
  · exact fun g j h1 h2 h3 => g j h1 (by omega) h3
  · intro g j h1 h2 h3
    by_cases e : j = i
    · subst e; exact h
    · exact g j h1 (by omega) h3
theorem noDiv_big {p : Int} {i : Nat} (h : p < (i : Int) * (i : Int)) : noDiv p i := by
  intro j h1 h2 h3
  have := mulB (a := (i : Int)) (b := (i : Int)) (m := (j : Int)) (n := (j : Int)) (by omega) (by omega) (by omega) (by omega)
  omega
theorem sqB {i : Nat} (h : i ≤ 101) : 0 ≤ (i : Int) * (i : Int) ∧ (i : Int) * (i : Int) ≤ 10201 := by
  have := mulB (a := (i : Int)) (b := (i : Int)) (m := 101) (n := 101) (by omega) (by omega) (by omega) (by omega)
  omega
theorem specPrime_l0 {p : Int} (h2 : 2 ≤ p) (ht : p ≤ 10007) (d : Nat) : ∀ i, 2 ≤ i → i + d = 101 → Ev (fun k => spec_l01Prime.l0 k p (i : Int)) (decide (noDiv p i)) := by
  induction d with
  | zero =>
    intro i hi hd
    obtain rfl : i = 101 := by omega
    refine Ev.step (fun k => by rw [spec_l01Prime.l0]) ?_
    refine Ev.neg (by rw [wrap_id (by omega) (by omega)]; omega) (Ev.some' ?_)
    exact (decide_eq_true (noDiv_big (by omega))).symm
  | succ d ih =>
    intro i hi hd
    have hb := sqB (i := i) (by omega)
    refine Ev.step (fun k => by rw [spec_l01Prime.l0]) ?_
    rw [wrap_id (x := (i : Int) * (i : Int)) (by omega) (by omega), tmod_pos (by omega)]
    by_cases h : (i : Int) * (i : Int) ≤ p
    · refine Ev.pos h (Ev.neg (by omega) ?_)
      by_cases h3 : p % (i : Int) = 0
      · exact Ev.pos h3 (Ev.some' (decide_eq_false (fun g => g i (by omega) (by omega) h h3)).symm)
      · refine Ev.neg h3 ?_
        rw [noDiv_succ h3, wsucc (i := i) (n := 101) (by omega) (by omega)]
        exact ih (i + 1) (by omega) (by omega)
    · exact Ev.neg h (Ev.some' (decide_eq_true (noDiv_big (by omega))).symm)
theorem implPrime_l0 {p : Int} (h2 : 2 ≤ p) (ht : p ≤ 10007) (d : Nat) : ∀ i, 2 ≤ i → i + d = 101 → Ev (fun k => impl_IsPrime.l0 k p (i : Int)) (decide (noDiv p i)) := by
  induction d with
  | zero =>
    intro i hi hd
    obtain rfl : i = 101 := by omega
    refine Ev.step (fun k => by rw [impl_IsPrime.l0]) ?_
    refine Ev.neg (by rw [wrap_id (by omega) (by omega)]; omega) (Ev.some' ?_)
    exact (decide_eq_true (noDiv_big (by omega))).symm
  | succ d ih =>
    intro i hi hd
    have hb := sqB (i := i) (by omega)
    refine Ev.step (fun k => by rw [impl_IsPrime.l0]) ?_
    rw [wrap_id (x := (i : Int) * (i : Int)) (by omega) (by omega), tmod_pos (by omega)]
    by_cases h : (i : Int) * (i : Int) ≤ p
    · refine Ev.pos h (Ev.neg (by omega) ?_)
      by_cases h3 : p % (i : Int) = 0
      · exact Ev.pos h3 (Ev.some' (decide_eq_false (fun g => g i (by omega) (by omega) h h3)).symm)
      · refine Ev.neg h3 ?_
        rw [noDiv_succ h3, wsucc (i := i) (n := 101) (by omega) (by omega)]
        exact ih (i + 1) (by omega) (by omega)
    · exact Ev.neg h (Ev.some' (decide_eq_true (noDiv_big (by omega))).symm)
theorem specPrime_ev (p : Int) : Ev (fun k => spec_l01Prime.f k p) (primeB p) := by
  unfold spec_l01Prime.f primeB
  refine Ev.bindE (in_eq _ _ _) ?_
  by_cases h : 2 ≤ p ∧ p ≤ 10007
  · refine Ev.pos (decide_eq_true h) ?_
    rw [decide_eq_true h, Bool.true_and]
    exact specPrime_l0 h.1 h.2 99 2 (by omega) (by omega)
  · refine Ev.neg (by simp [h]) (Ev.some' ?_)
    rw [decide_eq_false h, Bool.false_and]
theorem implPrime_ev (p : Int) : Ev (fun k => impl_IsPrime.f k p) (primeB p) := by
  unfold impl_IsPrime.f primeB
  refine Ev.bindE (within_eq _ _ _) ?_
  by_cases h : 2 ≤ p ∧ p ≤ 10007
  · refine Ev.pos (decide_eq_true h) ?_
    rw [decide_eq_true h, Bool.true_and]
    exact implPrime_l0 h.1 h.2 99 2 (by omega) (by omega)
  · refine Ev.neg (by simp [h]) (Ev.some' ?_)
    rw [decide_eq_false h, Bool.false_and]

/-! ### numbers modulo p -/
theorem Nm_cons (p x : Int) (l : List Int) : Nm p (x :: l) ↔ (0 ≤ x ∧ x < p) ∧ Nm p l := by
  constructor
  · exact fun h => ⟨h x (List.mem_cons_self ..), fun y hy => h y (List.mem_cons_of_mem _ hy)⟩
  · exact fun h => Nm.cons h.1.1 h.1.2 h.2
theorem allO_has (p : Int) (l : List Int) : allO (fun z_ => impl_field_has.f p z_) l = some (decide (Nm p l)) := by
  induction l with
  | nil => simp only [allO]; rw [decide_eq_true (Nm.nil p)]
  | cons x l ih =>
    simp only [has_eq] at ih
    simp only [allO, has_eq, Option.bind_some]
    by_cases h : 0 ≤ x ∧ x < p
    · rw [if_pos (decide_eq_true h), ih]
      congr 1
      apply decide_eq_decide.2
      rw [Nm_cons]
      exact ⟨fun g => ⟨h, g⟩, fun g => g.2⟩
    · rw [if_neg (by simp [h])]
      congr 1
      exact (decide_eq_false (fun g => h ((Nm_cons p x l).1 g).1)).symm
theorem areAll_has (p : Int) (l : List Int) (hl : l.length < 4611686018427387904) : impl_areAll_int64.f l (fun z_ => impl_field_has.f p z_) = some (decide (Nm p l)) := by
  unfold impl_areAll_int64.f
  rw [if_pos hl, allO_has]
theorem Nm_drop {p : Int} {l : List Int} {i : Nat} (h : i < l.length) : Nm p (l.drop i) ↔ (0 ≤ l.getD i 0 ∧ l.getD i 0 < p) ∧ Nm p (l.drop (i + 1)) := by
  rw [drop_cons l 0 i h, Nm_cons]
theorem numbers_l0 (p : Int) (hp : -9223372036854775807 ≤ p) (hp' : p ≤ 9223372036854775807) (l : List Int) (hl : Sm l.length) (d : Nat) : ∀ i, i + d = l.length → Ev (fun k => spec_l02Numbers.l0 k p l (i : Int)) (decide (Nm p (l.drop i))) := by
  induction d with
  | zero =>
    intro i hi
    refine Ev.step (fun k => by rw [spec_l02Numbers.l0]) ?_
    refine Ev.neg (by omega) (Ev.some' ?_)
    rw [List.drop_eq_nil_of_le (by omega)]
    exact (decide_eq_true (Nm.nil p)).symm
  | succ d ih =>
    intro i hi
    refine Ev.step (fun k => by rw [spec_l02Numbers.l0]) ?_
    refine Ev.pos (by omega) (Ev.pos (by omega) (Ev.bindE (in_eq _ _ _) ?_))
    rw [rd_nat, wrap_id (x := p - 1) (by omega) (by omega), wsucc (i := i) (n := l.length) (by omega) (by unfold Sm at hl; omega)]
    by_cases h : 0 ≤ l.getD i 0 ∧ l.getD i 0 ≤ p - 1
    · refine Ev.pos (decide_eq_true h) (Ev.cast (ih (i + 1) (by omega)) ?_)
      apply decide_eq_decide.2
      rw [Nm_drop (by omega : i < l.length)]
      exact ⟨fun g => ⟨⟨h.1, by omega⟩, g⟩, fun g => g.2⟩
    · refine Ev.neg (by simpa using h) (Ev.some' (decide_eq_false ?_).symm)
      rw [Nm_drop (by omega : i < l.length)]
      exact fun g => h ⟨g.1.1, by omega⟩
theorem numbers_ev {p : Int} (hp : Pm p) (l : List Int) (hl : Sm l.length) : Ev (fun k => spec_l02Numbers.f k p l) (decide (Nm p l)) := by
  unfold spec_l02Numbers.f
  have h2 := hp.two
  have ht := hp.top
  simpa using numbers_l0 p (by omega) (by omega) l hl l.length 0 (by omega)

/-! ### polynomials -/
def lastOk (l : List Int) : Bool := decide (l.length = 0) || (l.getD (l.length - 1) 0 != 0)
def polyB (p : Int) (l : List Int) : Bool := decide (Nm p l) && (decide (l.length ≤ 25) && lastOk l)
theorem lastPart (l : List Int) (hl : Sm l.length) :
    (if (l.length : Int) = 0 then (some true) else (if 0 ≤ (wrap64 ((l.length : Int) - 1)) then (if (wrap64 ((l.length : Int) - 1)) < (l.length : Int) then (some ((rd l (wrap64 ((l.length : Int) - 1))) != 0)) else none) else none)) = some (lastOk l) := by
  unfold lastOk
  by_cases h : l.length = 0
  · rw [if_pos (by omega)]; simp [h]
  · rw [if_neg (by omega), wpred (by omega) (by unfold Sm at hl; omega), if_pos (by omega), if_pos (by omega), rd_nat]
    simp [h]
theorem specPoly_l0 (p : Int) (l : List Int) (hl : Sm l.length) (d : Nat) : ∀ i, i + d = l.length → Ev (fun k => spec_l01Poly.l0 k p l (i : Int)) (decide (Nm p (l.drop i)) && (decide (l.length ≤ 25) && lastOk l)) := by
  induction d with
  | zero =>
    intro i hi
    refine Ev.step (fun k => by rw [spec_l01Poly.l0]) ?_
    refine Ev.neg (by omega) ?_
    rw [List.drop_eq_nil_of_le (by omega), decide_eq_true (Nm.nil p), Bool.true_and]
    by_cases h : l.length ≤ 25
    · refine Ev.pos (by omega) (Ev.eq ?_)
      rw [lastPart l hl]; simp [h]
    · exact Ev.neg (by omega) (Ev.some' (by simp [h]))
  | succ d ih =>
    intro i hi
    refine Ev.step (fun k => by rw [spec_l01Poly.l0]) ?_
    refine Ev.pos (by omega) (Ev.pos (by omega) ?_)
    rw [rd_nat, wsucc (i := i) (n := l.length) (by omega) (by unfold Sm at hl; omega)]
    by_cases h : l.getD i 0 < 0
    · refine Ev.pos h (Ev.some' ?_)
      rw [decide_eq_false (fun g => by have := ((Nm_drop (by omega : i < l.length)).1 g).1.1; omega), Bool.false_and]
    · refine Ev.neg h ?_
      by_cases h' : p ≤ l.getD i 0
      · refine Ev.pos h' (Ev.some' ?_)
        rw [decide_eq_false (fun g => by have := ((Nm_drop (by omega : i < l.length)).1 g).1.2; omega), Bool.false_and]
      · refine Ev.neg h' (Ev.cast (ih (i + 1) (by omega)) ?_)
        congr 1
        apply decide_eq_decide.2
        rw [Nm_drop (by omega : i < l.length)]
        exact ⟨fun g => ⟨⟨by omega, by omega⟩, g⟩, fun g => g.2⟩
theorem specPoly_ev (p : Int) (l : List Int) (hl : Sm l.length) : Ev (fun k => spec_l01Poly.f k p l) (polyB p l) := by
  unfold spec_l01Poly.f polyB
  simpa using specPoly_l0 p l hl l.length 0 (by omega)
theorem implPoly_eq (p : Int) (l : List Int) (hl : Sm l.length) : impl_IsPoly.f p l = some (polyB p l) := by
  unfold impl_IsPoly.f polyB
  by_cases h : l.length ≤ 25
  · rw [if_pos (by omega), areAll_has p l (by omega), Option.bind_some]
    by_cases hn : Nm p l
    · rw [if_pos (decide_eq_true hn), lastPart l hl]; simp [h, hn]
    · rw [if_neg (by simp [hn])]; simp [hn]
  · rw [if_neg (by omega)]; simp [h]
theorem allO_poly (p : Int) (ls : List (List Int)) (hl : ∀ l ∈ ls, Sm l.length) : allO (fun z_ => impl_polyCode_1.f z_ p) ls = some (ls.all (polyB p)) := by
  induction ls with
  | nil => rfl
  | cons l ls ih =>
    have e : impl_polyCode_1.f l p = some (polyB p l) := by
      unfold impl_polyCode_1.f
      rw [implPoly_eq p l (hl l (List.mem_cons_self ..))]; rfl
    simp only [allO, e, Option.bind_some, List.all_cons]
    by_cases h : polyB p l = true
    · rw [if_pos h, ih (fun m hm => hl m (List.mem_cons_of_mem _ hm)), h, Bool.true_and]
    · rw [if_neg h, Bool.eq_false_iff.2 h, Bool.false_and]
theorem polyCode_ev (p : Int) (b : Bool) (ls : List (List Int)) (hs : Sm ls.length) (hl : ∀ l ∈ ls, Sm l.length) :
    Ev (fun k => impl_polyCode.f k p b ls) (if ls.all (polyB p) then (if primeB p && b then 0 else 2) else 1) := by
  unfold impl_polyCode.f
  have e : impl_areAll_rows.f ls (fun z_ => impl_polyCode_1.f z_ p) = some (ls.all (polyB p)) := by
    unfold impl_areAll_rows.f
    rw [if_pos (by unfold Sm at hs; omega), allO_poly p ls hl]
  refine Ev.bindE e ?_
  by_cases h : ls.all (polyB p) = true
  · refine Ev.pos h (Ev.bind (implPrime_ev p) ?_)
    rw [if_pos h]
    cases primeB p <;> cases b <;> exact ⟨0, fun _ _ => rfl⟩
  · refine Ev.neg h (Ev.some' ?_)
    rw [if_neg h]

/-! ### moments -/
def momB (p : Int) (l : List Int) : Bool := primeB p && (decide (1 ≤ l.length ∧ l.length ≤ 24) && decide (Nm p l))
theorem momB.pm {p : Int} {l : List Int} (h : momB p l = true) : Pm p := by
  simp only [momB, Bool.and_eq_true] at h; exact primeB.pm h.1
theorem momB.nm {p : Int} {l : List Int} (h : momB p l = true) : Nm p l := by
  simp only [momB, Bool.and_eq_true, decide_eq_true_eq] at h; exact h.2.2
theorem momB.len {p : Int} {l : List Int} (h : momB p l = true) : 1 ≤ l.length ∧ l.length ≤ 24 := by
  simp only [momB, Bool.and_eq_true, decide_eq_true_eq] at h; exact h.2.1
theorem momB.prime {p : Int} {l : List Int} (h : momB p l = true) : primeB p = true := by
  simp only [momB, Bool.and_eq_true] at h; exact h.1
theorem specAre_ev (p : Int) (l : List Int) (hl : Sm l.length) : Ev (fun k => spec_l02Are.f k p l) (momB p l) := by
  unfold spec_l02Are.f momB
  refine Ev.bind (specPrime_ev p) ?_
  by_cases hp : primeB p = true
  · rw [hp, Bool.true_and]
    refine Ev.pos rfl ?_
    by_cases h1 : 1 ≤ l.length
    · refine Ev.pos (by omega) ?_
      by_cases h2 : l.length ≤ 24
      · refine Ev.pos (by omega) (Ev.bind (numbers_ev (primeB.pm hp) l hl) (Ev.some' ?_))
        rw [decide_eq_true (⟨h1, h2⟩ : 1 ≤ l.length ∧ l.length ≤ 24), Bool.true_and]
      · exact Ev.neg (by omega) (Ev.some' (by simp [h2]))
    · exact Ev.neg (by omega) (Ev.some' (by simp [h1]))
  · rw [Bool.eq_false_iff.2 hp, Bool.false_and]
    exact Ev.neg (by simp) (Ev.now _)
theorem implAre_ev (p : Int) (l : List Int) (hl : Sm l.length) : Ev (fun k => impl_AreMoments.f k p l) (momB p l) := by
  unfold impl_AreMoments.f momB
  refine Ev.bind (implPrime_ev p) ?_
  by_cases hp : primeB p = true
  · rw [hp, Bool.true_and]
    refine Ev.pos rfl (Ev.bindE (a := (l.length : Int)) rfl (Ev.bindE (within_eq _ _ _) ?_))
    by_cases h : 1 ≤ l.length ∧ l.length ≤ 24
    · refine Ev.pos (decide_eq_true (by omega)) (Ev.bindE (a := p) rfl (Ev.bindE (areAll_has p l (by unfold Sm at hl; omega)) (Ev.some' ?_)))
      rw [decide_eq_true h, Bool.true_and]
    · refine Ev.neg (by simp; omega) (Ev.some' ?_)
      rw [decide_eq_false h, Bool.false_and]
  · rw [Bool.eq_false_iff.2 hp, Bool.false_and]
    exact Ev.neg (by simp) (Ev.now _)
theorem momentsCode_ev (p : Int) (l : List Int) (hl : Sm l.length) (b : Bool) (ls : List (List Int)) (hs : Sm ls.length) (hls : ∀ l ∈ ls, Sm l.length) :
    Ev (fun k => impl_momentsCode.f k p l b ls) (if momB p l && ls.all (polyB p) then (if b then 0 else 2) else 1) := by
  unfold impl_momentsCode.f
  refine Ev.bind (implAre_ev p l hl) ?_
  by_cases h : momB p l = true
  · rw [h, Bool.true_and]
    refine Ev.pos rfl (Ev.bind (polyCode_ev p b ls hs hls) (Ev.some' ?_))
    rw [momB.prime h, Bool.true_and]
  · rw [Bool.eq_false_iff.2 h, Bool.false_and]
    exact Ev.neg (by simp) (Ev.some' rfl)

/-! ### sums -/
def sumTo (g : Nat → Int) : Nat → Int
  | 0 => 0
  | n + 1 => sumTo g n + g n
end Go.Proofs.Ytcfiegapclbenaa.Pr
/- Small facts of lists, copies and polynomials; no condition. -/
namespace Go.Proofs.Ytcfiegapclbenaa.Pr
open Go.RowKit Go.Proofs.YtcfiegapclbenaaW.PrintWords Go.Proofs.YtcfiegapclbenaaW.PrintLast Go.Proofs.YtcfiegapclbenaaW.PrintMore

theorem own_eq (l : List Int) (hl : Sm l.length) : spec_l01Own.f l = some l := by
  unfold spec_l01Own.f
  simp only [Option.bind_some, List.length_nil, List.nil_append]
  rw [if_pos (by unfold Sm at hl; omega)]
theorem with_eq (p : Int) (m l : List Int) (hl : Sm l.length) : impl_Moments_with.f p m l = some (p, l) := by
  unfold impl_Moments_with.f slices_Clone_ints.f
  rw [if_pos (by unfold Sm at hl; omega)]; rfl
theorem Sm.take {l : List Int} (h : Sm l.length) (n : Nat) : Sm (l.take n).length := by unfold Sm at h ⊢; rw [List.length_take]; omega
theorem Sm.drop {l : List Int} (h : Sm l.length) (n : Nat) : Sm (l.drop n).length := by unfold Sm at h ⊢; rw [List.length_drop]; omega
theorem Sm0 : Sm ([] : List Int).length := by simp [Sm]
theorem polyB.nm {p : Int} {f : List Int} (h : polyB p f = true) : Nm p f := by
  simp only [polyB, Bool.and_eq_true, decide_eq_true_eq] at h; exact h.1
theorem polyB.len {p : Int} {f : List Int} (h : polyB p f = true) : f.length ≤ 25 := by
  simp only [polyB, Bool.and_eq_true, decide_eq_true_eq] at h; exact h.2.1
theorem one_all (p : Int) (f : List Int) : [f].all (polyB p) = polyB p f := by simp
end Go.Proofs.Ytcfiegapclbenaa.Pr
