/- Texts of this session in one: what functions of the program compute, and plain facts of it, under the conditions that each theorem names. -/
import Derived.Test.YtokkabgkjhpecaaKFimplIsJacobi
import Derived.Test.YtokkabgkjhpecaaKC01
import Derived.Test.YtokkabgkjhpecaaKC02
import Derived.Test.YtokkabgkjhpecaaKC04
import Derived.Test.YtokkabgkjhpecaaKC05
import Derived.Test.YtokkabgkjhpecaaKC07
import Derived.Test.YtokkabgkjhpecaaKC08
/- Printed by a program of this session out of the translation: what these functions of the program compute, under the conditions that each theorem names. -/
namespace Go.Proofs.Ytokkabgkjhpecaa.Pr
open Go.RowKit Go.Proofs.YtokkabgkjhpecaaW.PrintWords Go.Proofs.YtokkabgkjhpecaaW.PrintLast Go.Proofs.YtokkabgkjhpecaaW.PrintMore
attribute [local go_sem] max2_int min2_int max_two min_two max_three min_three max_four min_four   -- for this text's walks alone
set_option linter.unusedVariables false
set_option linter.unusedSimpArgs false

/-! ### impl_jacobiCode: function 73 -/
def impl_jacobiCode.f (k : Nat) (a0_0 : Int) (l0_1 : List Int) (l0_2 : List Int) (a1 : Bool) : Option (Int) := (impl_IsJacobi.f k a0_0 l0_1 l0_2).bind fun t480 => (if t480 = true then (if a1 = true then (some 0) else (some 2)) else (some 1))
theorem impl_jacobiCode.mono : ∀ a0 a1 a2 a3 k, LeO (impl_jacobiCode.f k a0 a1 a2 a3) (impl_jacobiCode.f (k + 1) a0 a1 a2 a3) := by
 intro a0 a1 a2 a3 k
 unfold impl_jacobiCode.f
 repeat' first
   | (with_reducible exact impl_IsJacobi.mono _ _ _ _)
   | (with_reducible exact LeO.refl _)
   | (with_reducible exact LeO.none _)
   | (with_reducible refine LeO.ite ?_ ?_)
   | (with_reducible refine LeO.bind ?_ (fun _ => ?_))
   | exact impl_IsJacobi.mono _ _ _ _
   | exact LeO.none _
   | refine LeO.ite ?_ ?_
   | refine LeO.bind ?_ (fun _ => ?_)
set_option maxHeartbeats 8000000 in
set_option maxRecDepth 100000 in
theorem impl_jacobiCode.calls (k : Nat) (a0_0 : Int) (A0_1 : Option Addr) (c0_1 : Nat) (l0_1 : List Int) (A0_2 : Option Addr) (c0_2 : Nat) (l0_2 : List Int) (a1 : Bool) (r : Int) (w : World) (hr0_1 : Kd.C (Kd.int .i64) w A0_1 l0_1.length l0_1) (hc0_1 : l0_1.length ≤ c0_1) (hr0_2 : Kd.C (Kd.int .i64) w A0_2 l0_2.length l0_2) (hc0_2 : l0_2.length ≤ c0_2) (h : impl_jacobiCode.f k a0_0 l0_1 l0_2 a1 = some r) :
  Calls Try.prog 73 #[.agg #[.int .i64 a0_0, .slice A0_1 l0_1.length c0_1, .slice A0_2 l0_2.length c0_2], .bool a1] w fun e w' => e = .returned (.int .i64 r) ∧ Below w.heap.size w w' := by
 have hu46 := Try.underlying46
 have HR0_1 := zA hr0_1
 have HC0_1 := zA hc0_1
 clear hr0_1 hc0_1
 have HR0_2 := zA hr0_2
 have HC0_2 := zA hc0_2
 clear hr0_2 hc0_2
 have HB := zA (Below.refl w.heap.size w)
 have H : ((impl_IsJacobi.f k a0_0 l0_1 l0_2).bind fun t480 => (if t480 = true then (if a1 = true then (some 0) else (some 2)) else (some 1))) = some r := h
 clear h
 replace H := Option.bind_eq_some_iff.mp H
 obtain ⟨t480, A30, H⟩ := H
 replace H : (if t480 = true then (if a1 = true then (some 0) else (some 2)) else (some 1)) = some r := H
 have A3 := zA A30
 clear A30
 by_cases c4 : t480 = true
 ·subst c4
  have H1 : (if a1 = true then (some 0) else (some 2)) = some r := by rw [if_pos rfl] at H; exact H
  clear H
  have H := H1
  clear H1
  by_cases c5 : a1 = true
  ·subst c5
   have H1 : (some 0) = some r := by rw [if_pos rfl] at H; exact H
   clear H
   have H := H1
   clear H1
   obtain rfl := Option.some.inj H
   go_enter Try.func73, Try.ntmps73
   go_wp2_with (first | ((with_reducible refine gate_dst (N := 2) rfl ?_); refine box_event ?hg (N := 2) ?hd (cs := #[.int .i64 a0_0, .slice A0_1 l0_1.length c0_1, .slice A0_2 l0_2.length c0_2]) (t := 46) ?hr ?_; (case hd => rfl); (case hg => rfl); (case hr => first | (go_simp; done) | (go_simp; rfl)); intro gb479 hg w6 hbox hb; have n0_ := xH HB hb; have n1_ := zA (hbox); have n2_ := zA ((by rw [hg]; exact (below_size (uH HB.out)) : w.heap.size ≤ gb479)); have n3_ := zA ((by rw [hg]; exact (below_size (uH HB.out)) : w.heap.size ≤ gb479)); clear HB; have HB := n0_; have BK479 := n1_; have GW479 := n2_; have GE479 := n3_; have := geI GE479; clear n0_ n1_ n2_ n3_ hb hbox hg; have hcz7_0 : w6.cell? ⟨gb479, 0, none⟩ = some (.int .i64 a0_0) := (blk_cell BK479.out 0).trans rfl; have hcz7_1 : w6.cell? ⟨gb479, 1, none⟩ = some (.slice A0_1 l0_1.length c0_1) := (blk_cell BK479.out 1).trans rfl; have hcz7_2 : w6.cell? ⟨gb479, 2, none⟩ = some (.slice A0_2 l0_2.length c0_2) := (blk_cell BK479.out 2).trans rfl; have hfz7_0 := blk_frozen BK479.out 0; have hfz7_1 := blk_frozen BK479.out 1; have hfz7_2 := blk_frozen BK479.out 2) | ((with_reducible refine gate_callee (f := 137) rfl ?_); refine goesL_ (some 7) rfl rfl Try.func137 (by kernel_rfl) rfl #[.agg #[.int .i64 a0_0, .slice A0_1 l0_1.length c0_1, .slice A0_2 l0_2.length c0_2]] rfl (by (try simp only [la, lb, lc]); first | done | rfl | (simp only [ld, le]; rfl)) ?_; (with_reducible refine (impl_IsJacobi.calls k a0_0 _ _ l0_1 _ _ l0_2 true _ ?side1 ?side2 ?side3 ?side4 A3.out).mono ?_); (case side1 => exact uC ((Kd.C_below HR0_1.out HB.out))); (case side2 => exact HC0_1.out); (case side3 => exact uC ((Kd.C_below HR0_2.out HB.out))); (case side4 => exact HC0_2.out); rintro e w8 ⟨rfl, hb⟩; refine ⟨_, rfl, ?_⟩; have n0_ := xB BK479 hb; have n1_ := xH HB hb; clear BK479 HB; have BK479 := n0_; have HB := n1_; clear n0_ n1_; (try clear hb); (try clear hb2); (try clear hk); (try clear hi)))
   go_ret
   exact ⟨by first | rfl | (simp [errW_none, errW_some] <;> rfl) | (simp [*, errW_none, errW_some] <;> rfl), uH HB.out⟩
  ·replace c5 := Bool.eq_false_iff.mpr c5
   subst c5
   have H1 : (some 2) = some r := by rw [if_neg (show ¬ (false = true) by decide)] at H; exact H
   clear H
   have H := H1
   clear H1
   obtain rfl := Option.some.inj H
   go_enter Try.func73, Try.ntmps73
   go_wp2_with (first | ((with_reducible refine gate_dst (N := 2) rfl ?_); refine box_event ?hg (N := 2) ?hd (cs := #[.int .i64 a0_0, .slice A0_1 l0_1.length c0_1, .slice A0_2 l0_2.length c0_2]) (t := 46) ?hr ?_; (case hd => rfl); (case hg => rfl); (case hr => first | (go_simp; done) | (go_simp; rfl)); intro gb479 hg w9 hbox hb; have n0_ := xH HB hb; have n1_ := zA (hbox); have n2_ := zA ((by rw [hg]; exact (below_size (uH HB.out)) : w.heap.size ≤ gb479)); have n3_ := zA ((by rw [hg]; exact (below_size (uH HB.out)) : w.heap.size ≤ gb479)); clear HB; have HB := n0_; have BK479 := n1_; have GW479 := n2_; have GE479 := n3_; have := geI GE479; clear n0_ n1_ n2_ n3_ hb hbox hg; have hcz10_0 : w9.cell? ⟨gb479, 0, none⟩ = some (.int .i64 a0_0) := (blk_cell BK479.out 0).trans rfl; have hcz10_1 : w9.cell? ⟨gb479, 1, none⟩ = some (.slice A0_1 l0_1.length c0_1) := (blk_cell BK479.out 1).trans rfl; have hcz10_2 : w9.cell? ⟨gb479, 2, none⟩ = some (.slice A0_2 l0_2.length c0_2) := (blk_cell BK479.out 2).trans rfl; have hfz10_0 := blk_frozen BK479.out 0; have hfz10_1 := blk_frozen BK479.out 1; have hfz10_2 := blk_frozen BK479.out 2) | ((with_reducible refine gate_callee (f := 137) rfl ?_); refine goesL_ (some 7) rfl rfl Try.func137 (by kernel_rfl) rfl #[.agg #[.int .i64 a0_0, .slice A0_1 l0_1.length c0_1, .slice A0_2 l0_2.length c0_2]] rfl (by (try simp only [la, lb, lc]); first | done | rfl | (simp only [ld, le]; rfl)) ?_; (with_reducible refine (impl_IsJacobi.calls k a0_0 _ _ l0_1 _ _ l0_2 true _ ?side1 ?side2 ?side3 ?side4 A3.out).mono ?_); (case side1 => exact uC ((Kd.C_below HR0_1.out HB.out))); (case side2 => exact HC0_1.out); (case side3 => exact uC ((Kd.C_below HR0_2.out HB.out))); (case side4 => exact HC0_2.out); rintro e w11 ⟨rfl, hb⟩; refine ⟨_, rfl, ?_⟩; have n0_ := xB BK479 hb; have n1_ := xH HB hb; clear BK479 HB; have BK479 := n0_; have HB := n1_; clear n0_ n1_; (try clear hb); (try clear hb2); (try clear hk); (try clear hi)))
   go_ret
   exact ⟨by first | rfl | (simp [errW_none, errW_some] <;> rfl) | (simp [*, errW_none, errW_some] <;> rfl), uH HB.out⟩
 ·replace c4 := Bool.eq_false_iff.mpr c4
  subst c4
  have H1 : (some 1) = some r := by rw [if_neg (show ¬ (false = true) by decide)] at H; exact H
  clear H
  have H := H1
  clear H1
  obtain rfl := Option.some.inj H
  go_enter Try.func73, Try.ntmps73
  go_wp2_with (first | ((with_reducible refine gate_dst (N := 2) rfl ?_); refine box_event ?hg (N := 2) ?hd (cs := #[.int .i64 a0_0, .slice A0_1 l0_1.length c0_1, .slice A0_2 l0_2.length c0_2]) (t := 46) ?hr ?_; (case hd => rfl); (case hg => rfl); (case hr => first | (go_simp; done) | (go_simp; rfl)); intro gb479 hg w12 hbox hb; have n0_ := xH HB hb; have n1_ := zA (hbox); have n2_ := zA ((by rw [hg]; exact (below_size (uH HB.out)) : w.heap.size ≤ gb479)); have n3_ := zA ((by rw [hg]; exact (below_size (uH HB.out)) : w.heap.size ≤ gb479)); clear HB; have HB := n0_; have BK479 := n1_; have GW479 := n2_; have GE479 := n3_; have := geI GE479; clear n0_ n1_ n2_ n3_ hb hbox hg; have hcz13_0 : w12.cell? ⟨gb479, 0, none⟩ = some (.int .i64 a0_0) := (blk_cell BK479.out 0).trans rfl; have hcz13_1 : w12.cell? ⟨gb479, 1, none⟩ = some (.slice A0_1 l0_1.length c0_1) := (blk_cell BK479.out 1).trans rfl; have hcz13_2 : w12.cell? ⟨gb479, 2, none⟩ = some (.slice A0_2 l0_2.length c0_2) := (blk_cell BK479.out 2).trans rfl; have hfz13_0 := blk_frozen BK479.out 0; have hfz13_1 := blk_frozen BK479.out 1; have hfz13_2 := blk_frozen BK479.out 2) | ((with_reducible refine gate_callee (f := 137) rfl ?_); refine goesL_ (some 7) rfl rfl Try.func137 (by kernel_rfl) rfl #[.agg #[.int .i64 a0_0, .slice A0_1 l0_1.length c0_1, .slice A0_2 l0_2.length c0_2]] rfl (by (try simp only [la, lb, lc]); first | done | rfl | (simp only [ld, le]; rfl)) ?_; (with_reducible refine (impl_IsJacobi.calls k a0_0 _ _ l0_1 _ _ l0_2 false _ ?side1 ?side2 ?side3 ?side4 A3.out).mono ?_); (case side1 => exact uC ((Kd.C_below HR0_1.out HB.out))); (case side2 => exact HC0_1.out); (case side3 => exact uC ((Kd.C_below HR0_2.out HB.out))); (case side4 => exact HC0_2.out); rintro e w14 ⟨rfl, hb⟩; refine ⟨_, rfl, ?_⟩; have n0_ := xB BK479 hb; have n1_ := xH HB hb; clear BK479 HB; have BK479 := n0_; have HB := n1_; clear n0_ n1_; (try clear hb); (try clear hb2); (try clear hk); (try clear hi)))
  go_ret
  exact ⟨by first | rfl | (simp [errW_none, errW_some] <;> rfl) | (simp [*, errW_none, errW_some] <;> rfl), uH HB.out⟩

end Go.Proofs.Ytokkabgkjhpecaa.Pr
/- Data of recurrences: which lists are such data, for the program and for the reference; their codes; no condition. -/
namespace Go.Proofs.Ytokkabgkjhpecaa.Pr
open Go.RowKit Go.Proofs.YtokkabgkjhpecaaW.PrintWords Go.Proofs.YtokkabgkjhpecaaW.PrintLast Go.Proofs.YtokkabgkjhpecaaW.PrintMore

/-- Numbers modulo p other than 0. -/
def Um (p : Int) (l : List Int) : Prop := ∀ x ∈ l, 1 ≤ x ∧ x < p
instance (p : Int) (l : List Int) : Decidable (Um p l) := by unfold Um; infer_instance
theorem Um.nil (p : Int) : Um p [] := fun x h => by cases h
theorem Um_cons (p x : Int) (l : List Int) : Um p (x :: l) ↔ (1 ≤ x ∧ x < p) ∧ Um p l := by
  constructor
  · exact fun h => ⟨h x (List.mem_cons_self ..), fun y hy => h y (List.mem_cons_of_mem _ hy)⟩
  · intro h y hy
    rcases List.mem_cons.1 hy with rfl | hy
    · exact h.1
    · exact h.2 y hy
theorem Um.nm {p : Int} {l : List Int} (h : Um p l) : Nm p l := fun x hx => by have := h x hx; omega
theorem Um_drop {p : Int} {l : List Int} {i : Nat} (h : i < l.length) : Um p (l.drop i) ↔ (1 ≤ l.getD i 0 ∧ l.getD i 0 < p) ∧ Um p (l.drop (i + 1)) := by
  rw [drop_cons l 0 i h, Um_cons]
theorem isUnit_eq {p : Int} (hp : -9223372036854775807 ≤ p) (hp' : p ≤ 9223372036854775807) (x : Int) : impl_field_isUnit.f p x = some (decide (1 ≤ x ∧ x < p)) := by
  unfold impl_field_isUnit.f
  rw [within_eq, wrap_id (by omega) (by omega)]
  simp only [Option.bind_some]
  congr 1
  apply decide_eq_decide.2
  omega
theorem allO_unit {p : Int} (hp : -9223372036854775807 ≤ p) (hp' : p ≤ 9223372036854775807) (l : List Int) : allO (fun z_ => impl_field_isUnit.f p z_) l = some (decide (Um p l)) := by
  induction l with
  | nil => simp only [allO]; rw [decide_eq_true (Um.nil p)]
  | cons x l ih =>
    simp only [isUnit_eq hp hp'] at ih
    simp only [allO, isUnit_eq hp hp', Option.bind_some]
    by_cases h : 1 ≤ x ∧ x < p
    · rw [if_pos (decide_eq_true h), ih]
      congr 1
      apply decide_eq_decide.2
      rw [Um_cons]
      exact ⟨fun g => ⟨h, g⟩, fun g => g.2⟩
    · rw [if_neg (by simp [h])]
      congr 1
      exact (decide_eq_false (fun g => h ((Um_cons p x l).1 g).1)).symm
theorem areAll_unit {p : Int} (hp : -9223372036854775807 ≤ p) (hp' : p ≤ 9223372036854775807) (l : List Int) (hl : l.length < 4611686018427387904) : impl_areAll_int64.f l (fun z_ => impl_field_isUnit.f p z_) = some (decide (Um p l)) := by
  unfold impl_areAll_int64.f
  rw [if_pos hl, allO_unit hp hp']

def jacB (p : Int) (a b : List Int) : Bool := primeB p && decide (((1 ≤ a.length ∧ a.length ≤ 12) ∧ b.length = a.length) ∧ (Nm p a ∧ Um p b))
theorem jacB.prime {p : Int} {a b : List Int} (h : jacB p a b = true) : primeB p = true := by simp only [jacB, Bool.and_eq_true] at h; exact h.1
theorem jacB.pm {p : Int} {a b : List Int} (h : jacB p a b = true) : Pm p := primeB.pm (jacB.prime h)
theorem jacB.all {p : Int} {a b : List Int} (h : jacB p a b = true) : ((1 ≤ a.length ∧ a.length ≤ 12) ∧ b.length = a.length) ∧ (Nm p a ∧ Um p b) := by
  simp only [jacB, Bool.and_eq_true, decide_eq_true_eq] at h; exact h.2

theorem specJac_l0 {p : Int} (hp : Pm p) (a b : List Int) (hl : Sm a.length) (hab : b.length = a.length) (d : Nat) : ∀ i, i + d = a.length →
    Ev (fun k => spec_l03Is.l0 k (i : Int) p a b) (decide (Nm p (a.drop i) ∧ Um p (b.drop i))) := by
  induction d with
  | zero =>
    intro i hi
    refine Ev.step (fun k => by rw [spec_l03Is.l0]) ?_
    refine Ev.neg (by omega) (Ev.some' ?_)
    rw [List.drop_eq_nil_of_le (by omega), List.drop_eq_nil_of_le (by omega)]
    exact (decide_eq_true ⟨Nm.nil p, Um.nil p⟩).symm
  | succ d ih =>
    intro i hi
    unfold Sm at hl
    have h2 := hp.two
    have ht := hp.top
    refine Ev.step (fun k => by rw [spec_l03Is.l0]) ?_
    refine Ev.pos (by omega) (Ev.pos (by omega) (Ev.bindE (in_eq _ _ _) ?_))
    rw [rd_nat, rd_nat, wrap_id (x := p - 1) (by omega) (by omega)]
    by_cases h : 0 ≤ a.getD i 0 ∧ a.getD i 0 ≤ p - 1
    · refine Ev.pos (decide_eq_true h) (Ev.pos (by omega) (Ev.bindE (in_eq _ _ _) ?_))
      by_cases g : 1 ≤ b.getD i 0 ∧ b.getD i 0 ≤ p - 1
      · refine Ev.pos (decide_eq_true g) ?_
        rw [wsucc (i := i) (n := a.length) (by omega) (by omega)]
        refine Ev.cast (ih (i + 1) (by omega)) ?_
        apply decide_eq_decide.2
        rw [Nm_drop (l := a) (i := i) (by omega), Um_drop (l := b) (i := i) (by omega)]
        exact ⟨fun q => ⟨⟨by omega, q.1⟩, ⟨by omega, q.2⟩⟩, fun q => ⟨q.1.2, q.2.2⟩⟩
      · refine Ev.neg (by simp only [decide_eq_true_eq]; exact g) (Ev.some' ?_)
        exact (decide_eq_false (fun q => g (by have := ((Um_drop (p := p) (l := b) (i := i) (by omega)).1 q.2).1; omega))).symm
    · refine Ev.neg (by simp only [decide_eq_true_eq]; exact h) (Ev.some' ?_)
      exact (decide_eq_false (fun q => h (by have := ((Nm_drop (p := p) (l := a) (i := i) (by omega)).1 q.1).1; omega))).symm
theorem specJac_ev (p : Int) (a b : List Int) (ha : Sm a.length) (_hb : Sm b.length) : Ev (fun k => spec_l03Is.f k p a b) (jacB p a b) := by
  unfold spec_l03Is.f jacB
  refine Ev.bind (specPrime_ev p) ?_
  by_cases hp : primeB p = true
  · rw [hp, Bool.true_and]
    refine Ev.pos rfl ?_
    by_cases h1 : 1 ≤ a.length
    · refine Ev.neg (by omega) ?_
      by_cases h2 : a.length ≤ 12
      · refine Ev.neg (by omega) ?_
        by_cases h3 : b.length = a.length
        · rw [show (((b.length : Int) != (a.length : Int)) : Bool) = false from by simp [h3]]
          refine Ev.step (fun k => by rw [spec_l03Is.j0]) ?_
          refine Ev.neg (by decide) ?_
          refine Ev.cast (specJac_l0 (primeB.pm hp) a b ha h3 a.length 0 (by omega)) ?_
          apply decide_eq_decide.2
          exact ⟨fun g => ⟨⟨⟨h1, h2⟩, h3⟩, g⟩, fun g => g.2⟩
        · rw [show (((b.length : Int) != (a.length : Int)) : Bool) = true from by simp; omega]
          refine Ev.step (fun k => by rw [spec_l03Is.j0]) ?_
          refine Ev.pos rfl (Ev.some' (decide_eq_false (fun g => h3 g.1.2)).symm)
      · refine Ev.pos (by omega) ?_
        refine Ev.step (fun k => by rw [spec_l03Is.j0]) ?_
        refine Ev.pos rfl (Ev.some' (decide_eq_false (fun g => h2 g.1.1.2)).symm)
    · refine Ev.pos (by omega) ?_
      refine Ev.step (fun k => by rw [spec_l03Is.j0]) ?_
      refine Ev.pos rfl (Ev.some' (decide_eq_false (fun g => h1 g.1.1.1)).symm)
  · rw [Bool.eq_false_iff.2 hp, Bool.false_and]
    refine Ev.neg (by simp) ?_
    refine Ev.step (fun k => by rw [spec_l03Is.j0]) ?_
    exact Ev.pos rfl (Ev.now _)
theorem size_eq (p : Int) (a b : List Int) : impl_Jacobi_size.f p a b = some (a.length : Int) := by
  unfold impl_Jacobi_size.f impl_length_int64.f; rfl
theorem implJac_ev (p : Int) (a b : List Int) (ha : Sm a.length) (hb : Sm b.length) : Ev (fun k => impl_IsJacobi.f k p a b) (jacB p a b) := by
  unfold impl_IsJacobi.f jacB
  refine Ev.bind (implPrime_ev p) ?_
  have ha' := ha
  have hb' := hb
  unfold Sm at ha' hb'
  by_cases hp : primeB p = true
  · have h2 := (primeB.pm hp).two
    have ht := (primeB.pm hp).top
    rw [hp, Bool.true_and]
    refine Ev.pos rfl (Ev.bindE (size_eq p a b) (Ev.bindE (within_eq _ _ _) ?_))
    by_cases h1 : 1 ≤ a.length ∧ a.length ≤ 12
    · refine Ev.pos (decide_eq_true (by omega)) ?_
      by_cases h3 : b.length = a.length
      · refine Ev.pos (by omega) (Ev.bindE (a := p) rfl (Ev.bindE (areAll_has p a (by omega)) ?_))
        by_cases h4 : Nm p a
        · refine Ev.pos (decide_eq_true h4) (Ev.bindE (a := p) rfl (Ev.bindE (areAll_unit (by omega) (by omega) b (by omega)) (Ev.some' ?_)))
          apply decide_eq_decide.2
          exact ⟨fun g => ⟨⟨h1, h3⟩, h4, g⟩, fun g => g.2.2⟩
        · refine Ev.neg (by simp only [decide_eq_true_eq]; exact h4) (Ev.some' ?_)
          exact (decide_eq_false (fun g => h4 g.2.1)).symm
      · exact Ev.neg (by omega) (Ev.some' (decide_eq_false (fun g => h3 g.1.2)).symm)
    · refine Ev.neg (by simp only [decide_eq_true_eq]; omega) (Ev.some' ?_)
      exact (decide_eq_false (fun g => h1 g.1.1)).symm
  · rw [Bool.eq_false_iff.2 hp, Bool.false_and]
    exact Ev.neg (by simp) (Ev.now _)
/-- The code of data and a range. -/
def jacC (p : Int) (a b : List Int) (r : Bool) : Int := if jacB p a b = true then (if r = true then 0 else 2) else 1
theorem implJacCode_ev (p : Int) (a b : List Int) (r : Bool) (ha : Sm a.length) (hb : Sm b.length) : Ev (fun k => impl_jacobiCode.f k p a b r) (jacC p a b r) := by
  unfold impl_jacobiCode.f jacC
  refine Ev.bind (implJac_ev p a b ha hb) ?_
  by_cases h : jacB p a b = true
  · rw [if_pos h, if_pos h]
    by_cases g : r = true
    · rw [if_pos g, if_pos g]; exact Ev.now _
    · rw [if_neg g, if_neg g]; exact Ev.now _
  · rw [if_neg h, if_neg h]; exact Ev.now _
theorem specJacCode_ev (p : Int) (a b : List Int) (k lo hi : Int) (ha : Sm a.length) (hb : Sm b.length) : Ev (fun n => spec_l03Code.f n p a b k lo hi) (jacC p a b (decide (lo ≤ k ∧ k ≤ hi))) := by
  unfold spec_l03Code.f jacC
  refine Ev.bind (specJac_ev p a b ha hb) ?_
  by_cases h : jacB p a b = true
  · rw [if_pos h, if_pos h]
    refine Ev.bindE (in_eq _ _ _) ?_
    by_cases g : decide (lo ≤ k ∧ k ≤ hi) = true
    · rw [if_pos g, if_pos g]; exact Ev.now _
    · rw [if_neg g, if_neg g]; exact Ev.now _
  · rw [if_neg h, if_neg h]; exact Ev.now _
theorem jacC0 {p : Int} {a b : List Int} {r : Bool} (h : jacC p a b r = 0) : jacB p a b = true ∧ r = true := by
  unfold jacC at h
  split at h
  · split at h
    · exact ⟨‹_›, ‹_›⟩
    · omega
  · omega
end Go.Proofs.Ytokkabgkjhpecaa.Pr
/- The polynomials of data of recurrences, and the associated ones: what the program and the reference come to; no condition. -/
namespace Go.Proofs.Ytokkabgkjhpecaa.Pr
open Go.RowKit Go.Proofs.YtokkabgkjhpecaaW.PrintWords Go.Proofs.YtokkabgkjhpecaaW.PrintLast Go.Proofs.YtokkabgkjhpecaaW.PrintMore

/-- (x - a) f - b g. -/
def pnext (p a b : Int) (f g : List Int) : List Int := padd p (pmul p [(-a) % p, 1] f) g ((-b) % p)
theorem pnext_nm {p : Int} (hp : Pm p) (a b : Int) (f g : List Int) : Nm p (pnext p a b f g) := padd_nm hp.pos (pmul_nm hp.pos _ _) _
theorem pnext_len (p a b : Int) (f g : List Int) : (pnext p a b f g).length ≤ max (f.length + 1) g.length := by
  have h1 := padd_len p (pmul p [(-a) % p, 1] f) g ((-b) % p)
  have h2 := pmul_len p [(-a) % p, 1] f
  simp only [List.length_cons, List.length_nil] at h2
  unfold pnext
  omega
theorem two_nm {p : Int} (hp : Pm p) (a : Int) : Nm p [(-a) % p, 1] := by
  have := hp.two
  exact Nm.cons (emodB hp.pos _).1 (emodB hp.pos _).2 (Nm.cons (by omega) (by omega) (Nm.nil p))
theorem neg_wrap {p a : Int} (hp : Pm p) (h : 0 ≤ a ∧ a < p) : wrap64 (-a) = -a := by
  have := hp.top
  exact wrap_id (by omega) (by omega)
theorem specStep_ev {p a b : Int} (hp : Pm p) (ha : 0 ≤ a ∧ a < p) (hb : 0 ≤ b ∧ b < p) (f g : List Int) (hf : Nm p f) (hg : Nm p g) (sf : f.length ≤ 1000) (sg : g.length ≤ 1000) :
    Ev (fun n => spec_l03Step.f n p f g a b) (pnext p a b f g) := by
  unfold spec_l03Step.f
  have h2 := pmul_len p [(-a) % p, 1] f
  simp only [List.length_cons, List.length_nil] at h2
  rw [neg_wrap hp ha, neg_wrap hp hb]
  refine Ev.bindE (smod_eq hp _) (Ev.bind (specMul_ev hp _ f (two_nm hp a) hf (by simp [Sm]) (by unfold Sm; omega) (by simp only [List.length_cons, List.length_nil]; unfold Sm; omega)) (Ev.bindE (smod_eq hp _) (Ev.bind ?_ (Ev.now _))))
  exact specAdd_ev hp (emodB hp.pos _) _ g (pmul_nm hp.pos _ _) hg (by unfold Sm; omega) (by unfold Sm; omega)
theorem implNext_ev {p a b : Int} (hp : Pm p) (ha : 0 ≤ a ∧ a < p) (hb : 0 ≤ b ∧ b < p) (f g : List Int) (hf : Nm p f) (hg : Nm p g) (sf : f.length ≤ 1000) (sg : g.length ≤ 1000) :
    Ev (fun n => impl_field_next.f n p a b f g) (pnext p a b f g) := by
  unfold impl_field_next.f
  have h2 := pmul_len p [(-a) % p, 1] f
  simp only [List.length_cons, List.length_nil] at h2
  rw [neg_wrap hp ha, neg_wrap hp hb]
  refine Ev.bindE (mod_eq hp _) (Ev.bind (implMul_ev hp _ f (two_nm hp a) hf (by simp [Sm]) (by unfold Sm; omega) (by simp only [List.length_cons, List.length_nil]; unfold Sm; omega)) (Ev.bindE (mod_eq hp _) (Ev.bind ?_ (Ev.now _))))
  exact implAdd_ev hp (emodB hp.pos _) _ g (pmul_nm hp.pos _ _) hg (by unfold Sm; omega) (by unfold Sm; omega)

/-- P(k - 1) and P(k). -/
def pPair (p : Int) (a b : List Int) : Nat → List Int × List Int
  | 0 => ([], [1])
  | k + 1 => ((pPair p a b k).2, pnext p (a.getD k 0) (b.getD k 0) (pPair p a b k).2 (pPair p a b k).1)
/-- Q(k) and Q(k + 1). -/
def qPair (p : Int) (a b : List Int) : Nat → List Int × List Int
  | 0 => ([], [1])
  | k + 1 => ((qPair p a b k).2, pnext p (a.getD (k + 1) 0) (b.getD (k + 1) 0) (qPair p a b k).2 (qPair p a b k).1)
theorem one_nm {p : Int} (hp : Pm p) : Nm p [1] := by
  have := hp.two
  exact Nm.cons (by omega) (by omega) (Nm.nil p)
theorem pPair_ok {p : Int} (hp : Pm p) (a b : List Int) (k : Nat) : (Nm p (pPair p a b k).1 ∧ Nm p (pPair p a b k).2) ∧ ((pPair p a b k).1.length ≤ k + 1 ∧ (pPair p a b k).2.length ≤ k + 1) := by
  induction k with
  | zero => exact ⟨⟨Nm.nil p, one_nm hp⟩, by simp [pPair], by simp [pPair]⟩
  | succ k ih =>
    refine ⟨⟨ih.1.2, pnext_nm hp _ _ _ _⟩, by have := ih.2.2; simp only [pPair]; omega, ?_⟩
    have := pnext_len p (a.getD k 0) (b.getD k 0) (pPair p a b k).2 (pPair p a b k).1
    have h := ih.2
    simp only [pPair]
    omega
theorem qPair_ok {p : Int} (hp : Pm p) (a b : List Int) (k : Nat) : (Nm p (qPair p a b k).1 ∧ Nm p (qPair p a b k).2) ∧ ((qPair p a b k).1.length ≤ k + 1 ∧ (qPair p a b k).2.length ≤ k + 1) := by
  induction k with
  | zero => exact ⟨⟨Nm.nil p, one_nm hp⟩, by simp [qPair], by simp [qPair]⟩
  | succ k ih =>
    refine ⟨⟨ih.1.2, pnext_nm hp _ _ _ _⟩, by have := ih.2.2; simp only [qPair]; omega, ?_⟩
    have := pnext_len p (a.getD (k + 1) 0) (b.getD (k + 1) 0) (qPair p a b k).2 (qPair p a b k).1
    have h := ih.2
    simp only [qPair]
    omega

theorem specPoly03_l0 {p : Int} (hp : Pm p) (a b : List Int) (ha : Nm p a) (hb : Nm p b) (n : Nat) (hn : n ≤ a.length) (hl : a.length ≤ 12) (hab : b.length = a.length) (d : Nat) : ∀ i, i + d = n →
    Ev (fun m => spec_l03Poly.l0 m (n : Int) (pPair p a b i).1 (pPair p a b i).2 (i : Int) p a b) (pPair p a b n).2 := by
  induction d with
  | zero =>
    intro i hi
    refine Ev.step (fun m => by rw [spec_l03Poly.l0]) ?_
    refine Ev.neg (by omega) (Ev.some' ?_)
    rw [show i = n from by omega]
  | succ d ih =>
    intro i hi
    have h := pPair_ok hp a b i
    refine Ev.step (fun m => by rw [spec_l03Poly.l0]) ?_
    refine Ev.pos (by omega) (Ev.pos (by omega) (Ev.pos (by omega) (Ev.pos (by omega) ?_)))
    rw [rd_nat, rd_nat]
    refine Ev.bind (specStep_ev hp (ha.get (i := i) (by omega)) (hb.get (i := i) (by omega)) _ _ h.1.2 h.1.1 (by omega) (by omega)) ?_
    rw [wsucc (i := i) (n := n) (by omega) (by omega)]
    exact ih (i + 1) (by omega)
theorem specPoly03_ev {p : Int} (hp : Pm p) (a b : List Int) (ha : Nm p a) (hb : Nm p b) (n : Nat) (hn : n ≤ a.length) (hl : a.length ≤ 12) (hab : b.length = a.length) :
    Ev (fun m => spec_l03Poly.f m p a b (n : Int)) (pPair p a b n).2 := by
  unfold spec_l03Poly.f
  exact specPoly03_l0 hp a b ha hb n hn hl hab n 0 (by omega)
theorem specSecond_l0 {p : Int} (hp : Pm p) (a b : List Int) (ha : Nm p a) (hb : Nm p b) (n : Nat) (hn : n + 1 ≤ a.length) (hl : a.length ≤ 12) (hab : b.length = a.length) (d : Nat) : ∀ i, i + d = n →
    Ev (fun m => spec_l03Second.l0 m ((n + 1 : Nat) : Int) (qPair p a b i).1 (qPair p a b i).2 ((i + 1 : Nat) : Int) p a b) (qPair p a b n).2 := by
  induction d with
  | zero =>
    intro i hi
    refine Ev.step (fun m => by rw [spec_l03Second.l0]) ?_
    refine Ev.neg (by omega) (Ev.some' ?_)
    rw [show i = n from by omega]
  | succ d ih =>
    intro i hi
    have h := qPair_ok hp a b i
    refine Ev.step (fun m => by rw [spec_l03Second.l0]) ?_
    refine Ev.pos (by omega) (Ev.pos (by omega) (Ev.pos (by omega) (Ev.pos (by omega) ?_)))
    rw [rd_nat, rd_nat]
    refine Ev.bind (specStep_ev hp (ha.get (i := i + 1) (by omega)) (hb.get (i := i + 1) (by omega)) _ _ h.1.2 h.1.1 (by omega) (by omega)) ?_
    rw [wsucc (i := i + 1) (n := n + 1) (by omega) (by omega)]
    exact ih (i + 1) (by omega)
/-- Q(k). -/
theorem specSecond_ev {p : Int} (hp : Pm p) (a b : List Int) (ha : Nm p a) (hb : Nm p b) (n : Nat) (hn : n ≤ a.length) (hl : a.length ≤ 12) (hab : b.length = a.length) :
    Ev (fun m => spec_l03Second.f m p a b (n : Int)) (qPair p a b n).1 := by
  unfold spec_l03Second.f
  cases n with
  | zero => exact Ev.pos (by simp) (Ev.now _)
  | succ n =>
    refine Ev.neg (by omega) ?_
    exact specSecond_l0 hp a b ha hb n hn hl hab n 0 (by omega)

theorem getD_map_range {α : Type} (g : Nat → α) (d : α) {n i : Nat} (h : i < n) : ((List.range n).map g).getD i d = g i := by
  rw [List.getD_eq_getElem?_getD, List.getElem?_map, List.getElem?_range h]; rfl
theorem map_range_succ {α : Type} (g : Nat → α) (n : Nat) : (List.range (n + 1)).map g = (List.range n).map g ++ [g n] := by
  rw [List.range_succ, List.map_append]; rfl
/-- All polynomials P(0) to P(n - 1). -/
def pAll (p : Int) (a b : List Int) (n : Nat) : List (List Int) := (List.range n).map fun k => (pPair p a b k).2
def qAll (p : Int) (a b : List Int) (n : Nat) : List (List Int) := (List.range n).map fun k => (qPair p a b k).1
theorem implPolys_l0 {p : Int} (hp : Pm p) (a b : List Int) (ha : Nm p a) (hb : Nm p b) (hl : a.length ≤ 12) (hab : b.length = a.length) (d : Nat) : ∀ i, i + d = a.length →
    Ev (fun m => impl_Jacobi_polys.l0 m (pAll p a b (i + 1)) (pPair p a b i).1 a (a.length : Int) (i : Int) p a b) (pAll p a b (a.length + 1)) := by
  induction d with
  | zero =>
    intro i hi
    refine Ev.step (fun m => by rw [impl_Jacobi_polys.l0]) ?_
    refine Ev.neg (by omega) (Ev.some' ?_)
    rw [show i = a.length from by omega]
  | succ d ih =>
    intro i hi
    have h := pPair_ok hp a b i
    have hn : (pAll p a b (i + 1)).length = i + 1 := by simp [pAll]
    have hr : rd_L1 (pAll p a b (i + 1)) (i : Int) = (pPair p a b i).2 := by
      rw [rdL_nat]; exact getD_map_range _ _ (by omega)
    refine Ev.step (fun m => by rw [impl_Jacobi_polys.l0]) ?_
    rw [hr]
    refine Ev.pos (by omega) (Ev.pos (by omega) (Ev.pos (by omega) (Ev.pos (by omega) (Ev.bindE (a := p) rfl (Ev.pos (by omega) ?_)))))
    rw [rd_nat, rd_nat]
    refine Ev.bind (implNext_ev hp (ha.get (i := i) (by omega)) (hb.get (i := i) (by omega)) _ _ h.1.2 h.1.1 (by omega) (by omega)) (Ev.pos (by omega) ?_)
    rw [wsucc (i := i) (n := a.length) (by omega) (by omega)]
    have := ih (i + 1) (by omega)
    rw [show pAll p a b (i + 1 + 1) = pAll p a b (i + 1) ++ [(pPair p a b (i + 1)).2] from map_range_succ _ _] at this
    exact this
theorem implPolys_ev {p : Int} (hp : Pm p) (a b : List Int) (ha : Nm p a) (hb : Nm p b) (hl : a.length ≤ 12) (hab : b.length = a.length) :
    Ev (fun m => impl_Jacobi_polys.f m p a b) (pAll p a b (a.length + 1)) := by
  unfold impl_Jacobi_polys.f
  exact implPolys_l0 hp a b ha hb hl hab a.length 0 (by omega)
theorem implAssoc_l0 {p : Int} (hp : Pm p) (a b : List Int) (ha : Nm p a) (hb : Nm p b) (hl : a.length ≤ 12) (hab : b.length = a.length) (d : Nat) : ∀ i, i + 1 + d = a.length →
    Ev (fun m => impl_Jacobi_associated.l0 m (qAll p a b (i + 2)) ((i + 1 : Nat) : Int) p a b) (qAll p a b (a.length + 1)) := by
  induction d with
  | zero =>
    intro i hi
    refine Ev.step (fun m => by rw [impl_Jacobi_associated.l0]) ?_
    refine Ev.neg (by omega) (Ev.some' ?_)
    rw [show i + 2 = a.length + 1 from by omega]
  | succ d ih =>
    intro i hi
    have h := qPair_ok hp a b i
    have hn : (qAll p a b (i + 2)).length = i + 2 := by simp [qAll]
    have hw : wrap64 (((i + 1 : Nat) : Int) - 1) = (i : Int) := by rw [wrap_id (by omega) (by omega)]; omega
    have hr : rd_L1 (qAll p a b (i + 2)) ((i + 1 : Nat) : Int) = (qPair p a b i).2 := by
      rw [rdL_nat]; exact getD_map_range _ _ (by omega)
    have hr' : rd_L1 (qAll p a b (i + 2)) (i : Int) = (qPair p a b i).1 := by
      rw [rdL_nat]; exact getD_map_range _ _ (by omega)
    refine Ev.step (fun m => by rw [impl_Jacobi_associated.l0]) ?_
    rw [hw, hr, hr']
    refine Ev.pos (by omega) (Ev.bindE (a := p) rfl (Ev.pos (by omega) (Ev.pos (by omega) (Ev.pos (by omega) (Ev.pos (by omega) (Ev.pos (by omega) ?_))))))
    rw [rd_nat, rd_nat]
    refine Ev.bind (implNext_ev hp (ha.get (i := i + 1) (by omega)) (hb.get (i := i + 1) (by omega)) _ _ h.1.2 h.1.1 (by omega) (by omega)) (Ev.pos (by omega) ?_)
    rw [wsucc (i := i + 1) (n := a.length) (by omega) (by omega)]
    have := ih (i + 1) (by omega)
    rw [show qAll p a b (i + 1 + 2) = qAll p a b (i + 2) ++ [(qPair p a b (i + 2)).1] from map_range_succ _ _] at this
    exact this
theorem implAssoc_ev {p : Int} (hp : Pm p) (a b : List Int) (ha : Nm p a) (hb : Nm p b) (h1 : 1 ≤ a.length) (hl : a.length ≤ 12) (hab : b.length = a.length) :
    Ev (fun m => impl_Jacobi_associated.f m p a b) (qAll p a b (a.length + 1)) := by
  unfold impl_Jacobi_associated.f
  exact implAssoc_l0 hp a b ha hb hl hab (a.length - 1) 0 (by omega)
end Go.Proofs.Ytokkabgkjhpecaa.Pr
