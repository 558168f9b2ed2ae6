/- Texts of this session in one: what functions of the program compute, and plain facts of it, under the conditions that each theorem names. -/
import Derived.Below
import Derived.ChangeOld
import Derived.Lib.SmallJoins
import Derived.OpenShut
import Derived.ProofKit
import Derived.ShutString
import Derived.SizedLaws
import Derived.Test.YtokkabgkjhpecaaRows
import Derived.WalkKit
import Derived.Test.YtokkabgkjhpecaaKFlawsFnExactDegreeOfRule
import Derived.Test.YtokkabgkjhpecaaKC05
import Derived.Test.YtokkabgkjhpecaaWSized
import Derived.Test.YtokkabgkjhpecaaKXBDeg
/- FnExactDegreeOfRule: for every input the law answers true: the program's DegreeOfRule and the reference's come to one value, and the law's own copies, marks and comparisons answer as they have to. No condition. -/
namespace Go.Proofs.Ytokkabgkjhpecaa.Pure
open Go.RowKit Go.Proofs.Ytokkabgkjhpecaa.Pr Go.Proofs.YtokkabgkjhpecaaW.PrintWords Go.Proofs.YtokkabgkjhpecaaW.PrintLast

theorem FnExactDegreeOfRule : laws_FnExactDegreeOfRule.Pure := by
  intro a0_0 l0_1 a1_0 l1_1 l1_2 w0_0 ml0_1 wl0_1 w1_0 ml1_1 wl1_1 ml1_2 wl1_2
  have main : Ev (fun k => laws_FnExactDegreeOfRule.f k a0_0 l0_1 a1_0 l1_1 l1_2) true := by
    unfold laws_FnExactDegreeOfRule.f
    by_cases z0 : l0_1.length ≤ 1048576
    case neg => exact Ev.bindE (szMoments_no _ l0_1 (by unfold maxLen at ml0_1; omega) (1048576) (by omega) (by omega)) (Ev.pos (by omega) (Ev.now _))
    refine Ev.bindE (szMoments_yes _ l0_1 (1048576) (by omega) z0) (Ev.neg (by omega) ?_)
    by_cases z1 : l1_1.length + l1_2.length ≤ 1048576 - (l0_1.length)
    case neg => exact Ev.bindE (szRule_no _ l1_1 l1_2 (by unfold maxLen at ml1_1; omega) (by unfold maxLen at ml1_2; omega) (1048576 - (l0_1.length)) (by omega) (by omega)) (Ev.pos (by omega) (Ev.now _))
    refine Ev.bindE (szRule_yes _ l1_1 l1_2 (1048576 - (l0_1.length)) (by omega) z1) (Ev.neg (by omega) ?_)
    have sl0_1 : Sm l0_1.length := by unfold Sm; omega
    have sl1_1 : Sm l1_1.length := by unfold Sm; omega
    have sl1_2 : Sm l1_2.length := by unfold Sm; omega
    have bw0_0 := wf64 w0_0
    have bw1_0 := wf64 w1_0
    obtain ⟨v, hspec, himpl⟩ := DegreeOfRule_both a0_0 l0_1 a1_0 l1_1 l1_2 sl0_1 sl1_1 sl1_2
    repeat' first
      | exact Ev.now _
      | refine Ev.bind hspec ?_
      | refine Ev.bind himpl ?_
      | refine Ev.bind (toMoments_ev _ _ (by first | assumption | (rw [marks_length]; assumption))) ?_
      | refine Ev.bind (eqMoments_ev _ _ (by first | assumption | (rw [marks_length]; assumption))) ?_
      | refine Ev.bind (toRule_ev _ _ _ (by first | assumption | (rw [marks_length]; assumption)) (by first | assumption | (rw [marks_length]; assumption))) ?_
      | refine Ev.bind (eqRule_ev _ _ _ (by first | assumption | (rw [marks_length]; assumption)) (by first | assumption | (rw [marks_length]; assumption))) ?_
      | refine Ev.pos (by first | rfl | omega | (dsimp only; omega)) ?_
      | refine Ev.neg (by first | exact ne_self _ | omega | (dsimp only; omega) | decide) ?_
      | refine Ev.step (fun k => by rw [laws_FnExactDegreeOfRule.j0]) ?_
      | refine Ev.step (fun k => by rw [laws_FnExactDegreeOfRule.j1]) ?_
      | refine Ev.step (fun k => by rw [laws_FnExactDegreeOfRule.j2]) ?_
      | refine Ev.step (fun k => by rw [laws_FnExactDegreeOfRule.j3]) ?_
      | refine Ev.step (fun k => by rw [laws_FnExactDegreeOfRule.j4]) ?_
      | refine Ev.step (fun k => by rw [laws_FnExactDegreeOfRule.j5]) ?_
  exact main.rounds

end Go.Proofs.Ytokkabgkjhpecaa.Pure
/- Printed by a program of this session out of the translation: what these functions of the program compute, under the conditions that each theorem names. -/
namespace Go.Proofs.Ytokkabgkjhpecaa.fnExactDegreeOfRule
open Go.ChangeShapes Go.WideShapes Go.ChangeAt Go.RowKit
open Go.ChangeMaps (open_string shut_string)
set_option linter.unusedVariables false
theorem own : ownKnob Try.prog.godebug = none := by kernel_rfl
theorem laidOut : laidOutB Try.prog = true := by kernel_rfl
def IsRow (k : IntKind) (w : World) (a : Option Addr) (len cap : Nat) (zs : List Int) : Prop :=
  (a = none ∧ len = 0 ∧ cap = 0 ∧ zs = []) ∨
  ∃ x, a = some x ∧ len ≤ cap ∧ cap ≤ maxLen ∧ zs.length = cap ∧ (∀ i, i < zs.length → w.cell? (x.add i) = some (.int k (zs.getD i 0))) ∧ ∀ n ∈ zs, (Lit.int k n).wf = true
set_option maxRecDepth 100000 in
theorem lifted (os : Os) (started : os.Started) (H : Type) (enc : TypeId × Value → H) :
    ReturnsInHanded {} Try.checked os 4 .any (Rows.fnExactDegreeOfRuleSpec.pre6 enc Try.prog Try.f4 Rows.fnExactDegreeOfRuleRow.domain false) (Rows.fnExactDegreeOfRuleSpec.post enc Try.prog Try.f4 false true false false) := by
  refine returnsInHanded_of_change_sized (C := Try.checked) own started (by kernel_rfl) Try.func4
    (ChangeSpec.witness6 (enc := enc) (C := Try.checked) false ⟨#[], #[.agg #[.int .i64 0, .slice none 0 0], .agg #[.int .i64 0, .slice none 0 0, .slice none 0 0]], []⟩ 8 (by kernel_rfl) (by kernel_rfl) (by kernel_rfl) (by kernel_rfl)) ?_
  intro W base args ds gs before hval0 hW hcnd hsz0 _
  have hsz : (DataW.weightsEach Try.prog (Try.f4.params.toList ++ Rows.fnExactDegreeOfRuleSpec.plain.varTypes Try.prog) (ds ++ gs)).all (· ≤ reachBytes) = true := hsz0
  have hval : ∀ (j : Nat) t v, Try.f4.params[j]? = some t → args[j]? = some v → Value.okWide Try.prog W .any base t v := hval0
  have hW' := hW
  obtain ⟨p, q, hA0, hV, rfl, hfz, hnd⟩ := hW
  have hA : DataW.TrodAll enc Try.prog W 0 (fun _ => true) true Try.f4.params.toList args.toList ds p := hA0
  rw [Try.params4] at hA hval hsz
  obtain ⟨v0, vs0, d0, ds0, p0, q0, hargs, rfl, rfl, h0, r0⟩ := trodAll_cons hA
  obtain ⟨v1, vs1, d1, ds1, p1, q1, rfl, rfl, rfl, h1, r1⟩ := trodAll_cons r0
  obtain ⟨rfl, rfl, rfl⟩ := trodAll_nil r1
  obtain rfl : args = #[v0, v1] := by cases args; simp_all
  obtain ⟨rfl, rfl⟩ := trodVars_none hV
  have k0 := h0
  have lt0 : ∀ x ∈ p0, x.block < W.heap.size := by obtain ⟨m, hm⟩ := k0; exact DataW.trod_lt m _ _ _ hm
  obtain ⟨c0_0, c0_1, y0_0, y0_1, n0, rfl, rfl, rfl, e0_0, e0_1⟩ := Go.Joins.open_agg2 Try.underlying24 (by kernel_rfl) (by kernel_rfl) (hval 0 24 v0 rfl rfl) h0
  obtain ⟨a0_0, f0_0, _, w0_0⟩ := DataW.trod_int Try.underlying2 e0_0
  simp only [List.cons.injEq, and_true] at f0_0
  subst f0_0
  obtain ⟨a0_1, len0_1, cap0_1, z0_1, f0_1, w0_1⟩ : ∃ a len cap zs, c0_1 = .slice a len cap ∧ IsRow .i64 W a len cap zs := by
    rcases open_ints Try.underlying22 Try.underlying2 (by kernel_rfl) e0_1 with ⟨hcs, _⟩ | ⟨x, l, c, zs, hcs, _, hl, hm, hz, _, hcell, hwz⟩
    · simp only [List.cons.injEq, and_true] at hcs
      exact ⟨none, 0, 0, [], hcs, .inl ⟨rfl, rfl, rfl, rfl⟩⟩
    · simp only [List.cons.injEq, and_true] at hcs
      exact ⟨some x, l, c, zs, hcs, .inr ⟨_, rfl, hl, hm, by simpa using hz, hcell, hwz⟩⟩
  subst f0_1
  have k1 := h1
  have lt1 : ∀ x ∈ p1, x.block < W.heap.size := by obtain ⟨m, hm⟩ := k1; exact DataW.trod_lt m _ _ _ hm
  obtain ⟨c1_0, c1_1, c1_2, y1_0, y1_1, y1_2, n1, rfl, rfl, rfl, e1_0, e1_1, e1_2⟩ := Go.Joins.open_agg3 Try.underlying26 (by kernel_rfl) (by kernel_rfl) (hval 1 26 v1 rfl rfl) h1
  obtain ⟨a1_0, f1_0, _, w1_0⟩ := DataW.trod_int Try.underlying2 e1_0
  simp only [List.cons.injEq, and_true] at f1_0
  subst f1_0
  obtain ⟨a1_1, len1_1, cap1_1, z1_1, f1_1, w1_1⟩ : ∃ a len cap zs, c1_1 = .slice a len cap ∧ IsRow .i64 W a len cap zs := by
    rcases open_ints Try.underlying22 Try.underlying2 (by kernel_rfl) e1_1 with ⟨hcs, _⟩ | ⟨x, l, c, zs, hcs, _, hl, hm, hz, _, hcell, hwz⟩
    · simp only [List.cons.injEq, and_true] at hcs
      exact ⟨none, 0, 0, [], hcs, .inl ⟨rfl, rfl, rfl, rfl⟩⟩
    · simp only [List.cons.injEq, and_true] at hcs
      exact ⟨some x, l, c, zs, hcs, .inr ⟨_, rfl, hl, hm, by simpa using hz, hcell, hwz⟩⟩
  subst f1_1
  obtain ⟨a1_2, len1_2, cap1_2, z1_2, f1_2, w1_2⟩ : ∃ a len cap zs, c1_2 = .slice a len cap ∧ IsRow .i64 W a len cap zs := by
    rcases open_ints Try.underlying22 Try.underlying2 (by kernel_rfl) e1_2 with ⟨hcs, _⟩ | ⟨x, l, c, zs, hcs, _, hl, hm, hz, _, hcell, hwz⟩
    · simp only [List.cons.injEq, and_true] at hcs
      exact ⟨none, 0, 0, [], hcs, .inl ⟨rfl, rfl, rfl, rfl⟩⟩
    · simp only [List.cons.injEq, and_true] at hcs
      exact ⟨some x, l, c, zs, hcs, .inr ⟨_, rfl, hl, hm, by simpa using hz, hcell, hwz⟩⟩
  subst f1_2
  clear hA0 hval0 hsz0 hsz
  refine (Pr.laws_FnExactDegreeOfRule.walk Pure.FnExactDegreeOfRule a0_0 a0_1 len0_1 cap0_1 z0_1 a1_0 a1_1 len1_1 cap1_1 z1_1 a1_2 len1_2 cap1_2 z1_2 W w0_0 w0_1 w1_0 w1_1 w1_2).mono fun e W' ⟨he, bel⟩ => ?_
  subst he
  exact ⟨_, rfl, _, _, _, [], _, [], hW', trodAll_mk1 (shut_bool Try.underlying4 _), (trodAll_cons_mk (Below.trod laidOut (by kernel_rfl) (of_decide_eq_true (by kernel_rfl)) k0 bel lt0) (trodAll_cons_mk (Below.trod laidOut (by kernel_rfl) (of_decide_eq_true (by kernel_rfl)) k1 bel lt1) trodAll_mk0)), rfl, bel.frame _, fun h => by cases h⟩
theorem over : Rows.fnExactDegreeOfRuleRow.holds Try.pinned (OpenSpec.ofChange Rows.fnExactDegreeOfRuleSpec) :=
  OpenClaim.holds_of_wide 4 Try.f4 rfl rfl rfl rfl rfl rfl rfl ⟨rfl, rfl, rfl, rfl, rfl⟩ rfl rfl rfl rfl rfl (by kernel_rfl) Try.func4 (by kernel_rfl)
    (of_decide_eq_true (by kernel_rfl)) (by unfold Func.isWrapper; first | (rw [if_pos (by decide +kernel)]; kernel_rfl) | (rw [if_neg (by decide +kernel)]; exact ⟨rfl, rfl⟩))
    (fun os started H enc _ => lifted os started H enc)
theorem proved : Rows.FnExactDegreeOfRuleSaid := over
#print axioms proved
end Go.Proofs.Ytokkabgkjhpecaa.fnExactDegreeOfRule
namespace Go.Proofs.Ytokkabgkjhpecaa
/-- The row, under a short name, for the claim. -/
theorem fnExactDegreeOfRule_holds : Rows.FnExactDegreeOfRuleSaid := fnExactDegreeOfRule.proved
end Go.Proofs.Ytokkabgkjhpecaa
