/- Texts of this session in one: what functions of the program compute, and plain facts of it, under the conditions that each theorem names. -/
import Derived.Below
import Derived.ChangeOld
import Derived.Lib.SmallJoins
import Derived.OpenShut
import Derived.ProofKit
import Derived.ShutString
import Derived.SizedLaws
import Derived.Test.YtjdannndpfkadaaRows
import Derived.WalkKit
import Derived.Test.YtjdannndpfkadaaKFlawsFnExactMergeRules
import Derived.Test.YtjdannndpfkadaaKMergeRules4
import Derived.Test.YtjdannndpfkadaaKWSized
import Derived.Test.YtjdannndpfkadaaKXBMerge
namespace Go.Proofs.Ytjdannndpfkadaa.Pure
/- FnExactMergeRules: for every input the law answers true: the program's MergeRules and the reference's come to one value, and the law's own copies, marks and comparisons answer as they have to. No condition. -/
open Go.RowKit Go.Proofs.Ytjdannndpfkadaa.Pr Go.Proofs.YtjdannndpfkadaaW.PrintWords Go.Proofs.YtjdannndpfkadaaW.PrintLast
theorem FnExactMergeRules : laws_FnExactMergeRules.Pure := by
  intro a0_0 l0_1 l0_2 a1_0 l1_1 l1_2 a2 w0_0 ml0_1 wl0_1 ml0_2 wl0_2 w1_0 ml1_1 wl1_1 ml1_2 wl1_2 w2
  have main : Ev (fun k => laws_FnExactMergeRules.f k a0_0 l0_1 l0_2 a1_0 l1_1 l1_2 a2) true := by
    unfold laws_FnExactMergeRules.f
    by_cases z0 : l0_1.length + l0_2.length ≤ 1048576
    case neg => exact Ev.bindE (szRule_no _ l0_1 l0_2 (by unfold maxLen at ml0_1; omega) (by unfold maxLen at ml0_2; omega) (1048576) (by omega) (by omega)) (Ev.pos (by omega) (Ev.now _))
    refine Ev.bindE (szRule_yes _ l0_1 l0_2 (1048576) (by omega) z0) (Ev.neg (by omega) ?_)
    by_cases z1 : l1_1.length + l1_2.length ≤ 1048576 - (l0_1.length + l0_2.length)
    case neg => exact Ev.bindE (szRule_no _ l1_1 l1_2 (by unfold maxLen at ml1_1; omega) (by unfold maxLen at ml1_2; omega) (1048576 - (l0_1.length + l0_2.length)) (by omega) (by omega)) (Ev.pos (by omega) (Ev.now _))
    refine Ev.bindE (szRule_yes _ l1_1 l1_2 (1048576 - (l0_1.length + l0_2.length)) (by omega) z1) (Ev.neg (by omega) ?_)
    have sl0_1 : Sm l0_1.length := by unfold Sm; omega
    have sl0_2 : Sm l0_2.length := by unfold Sm; omega
    have sl1_1 : Sm l1_1.length := by unfold Sm; omega
    have sl1_2 : Sm l1_2.length := by unfold Sm; omega
    have bw0_0 := wf64 w0_0
    have bw1_0 := wf64 w1_0
    have bw2 := wf64 w2
    obtain ⟨v, hspec, himpl, hv0, hv1⟩ := MergeRules_both a0_0 l0_1 l0_2 a1_0 l1_1 l1_2 a2 sl0_1 sl0_2 sl1_1 sl1_2
    repeat' first
      | exact Ev.now _
      | refine Ev.bind hspec ?_
      | refine Ev.bind himpl ?_
      | refine Ev.bind (toRule_ev _ _ _ (by first | assumption | (rw [marks_length]; assumption)) (by first | assumption | (rw [marks_length]; assumption))) ?_
      | refine Ev.bind (eqRule_ev _ _ _ (by first | assumption | (rw [marks_length]; assumption)) (by first | assumption | (rw [marks_length]; assumption))) ?_
      | refine Ev.bind (markRule_ev _ _ _ (by first | assumption | (rw [marks_length]; assumption)) (by first | assumption | (rw [marks_length]; assumption)) 1 (by omega)) ?_
      | refine Ev.bind (markRule_ev _ _ _ (by first | assumption | (rw [marks_length]; assumption)) (by first | assumption | (rw [marks_length]; assumption)) _ (by dsimp only; unfold Sm at *; omega)) ?_
      | refine Ev.bind (heldRule_ev _ _ _ (by first | assumption | (rw [marks_length]; assumption)) (by first | assumption | (rw [marks_length]; assumption)) 1 (by omega)) ?_
      | refine Ev.pos (by first | rfl | omega | (dsimp only; omega)) ?_
      | refine Ev.neg (by first | exact ne_self _ | omega | (dsimp only; omega) | decide) ?_
      | refine Ev.step (fun k => by rw [laws_FnExactMergeRules.j0]) ?_
      | refine Ev.step (fun k => by rw [laws_FnExactMergeRules.j1]) ?_
      | refine Ev.step (fun k => by rw [laws_FnExactMergeRules.j2]) ?_
      | refine Ev.step (fun k => by rw [laws_FnExactMergeRules.j3]) ?_
      | refine Ev.step (fun k => by rw [laws_FnExactMergeRules.j4]) ?_
      | refine Ev.step (fun k => by rw [laws_FnExactMergeRules.j5]) ?_
  exact main.rounds
end Go.Proofs.Ytjdannndpfkadaa.Pure
namespace Go.Proofs.Ytjdannndpfkadaa.fnExactMergeRules
open Go.ChangeShapes Go.WideShapes Go.ChangeAt Go.RowKit
open Go.ChangeMaps (open_string shut_string)
set_option linter.unusedVariables false
theorem own : ownKnob Try.prog.godebug = none := by kernel_rfl
theorem laidOut : laidOutB Try.prog = true := by kernel_rfl
def IsRow (k : IntKind) (w : World) (a : Option Addr) (len cap : Nat) (zs : List Int) : Prop :=
  (a = none ∧ len = 0 ∧ cap = 0 ∧ zs = []) ∨
  ∃ x, a = some x ∧ len ≤ cap ∧ cap ≤ maxLen ∧ zs.length = cap ∧ (∀ i, i < zs.length → w.cell? (x.add i) = some (.int k (zs.getD i 0))) ∧ ∀ n ∈ zs, (Lit.int k n).wf = true
set_option maxRecDepth 100000 in
theorem lifted (os : Os) (started : os.Started) (H : Type) (enc : TypeId × Value → H) :
    ReturnsInHanded {} Try.checked os 5 .any (Rows.fnExactMergeRulesSpec.pre6 enc Try.prog Try.f5 Rows.fnExactMergeRulesRow.domain false) (Rows.fnExactMergeRulesSpec.post enc Try.prog Try.f5 false true false false) := by
  refine returnsInHanded_of_change_sized (C := Try.checked) own started (by kernel_rfl) Try.func5
    (ChangeSpec.witness6 (enc := enc) (C := Try.checked) false ⟨#[], #[.agg #[.int .i64 0, .slice none 0 0, .slice none 0 0], .agg #[.int .i64 0, .slice none 0 0, .slice none 0 0], .int .i64 0], []⟩ 8 (by kernel_rfl) (by kernel_rfl) (by kernel_rfl) (by kernel_rfl)) ?_
  intro W base args ds gs before hval0 hW hcnd hsz0 _
  have hsz : (DataW.weightsEach Try.prog (Try.f5.params.toList ++ Rows.fnExactMergeRulesSpec.plain.varTypes Try.prog) (ds ++ gs)).all (· ≤ reachBytes) = true := hsz0
  have hval : ∀ (j : Nat) t v, Try.f5.params[j]? = some t → args[j]? = some v → Value.okWide Try.prog W .any base t v := hval0
  have hW' := hW
  obtain ⟨p, q, hA0, hV, rfl, hfz, hnd⟩ := hW
  have hA : DataW.TrodAll enc Try.prog W 0 (fun _ => true) true Try.f5.params.toList args.toList ds p := hA0
  rw [Try.params5] at hA hval hsz
  obtain ⟨v0, vs0, d0, ds0, p0, q0, hargs, rfl, rfl, h0, r0⟩ := trodAll_cons hA
  obtain ⟨v1, vs1, d1, ds1, p1, q1, rfl, rfl, rfl, h1, r1⟩ := trodAll_cons r0
  obtain ⟨v2, vs2, d2, ds2, p2, q2, rfl, rfl, rfl, h2, r2⟩ := trodAll_cons r1
  obtain ⟨rfl, rfl, rfl⟩ := trodAll_nil r2
  obtain rfl : args = #[v0, v1, v2] := by cases args; simp_all
  obtain ⟨rfl, rfl⟩ := trodVars_none hV
  have k0 := h0
  have lt0 : ∀ x ∈ p0, x.block < W.heap.size := by obtain ⟨m, hm⟩ := k0; exact DataW.trod_lt m _ _ _ hm
  obtain ⟨c0_0, c0_1, c0_2, y0_0, y0_1, y0_2, n0, rfl, rfl, rfl, e0_0, e0_1, e0_2⟩ := Go.Joins.open_agg3 Try.underlying49 (by kernel_rfl) (by kernel_rfl) (hval 0 49 v0 rfl rfl) h0
  obtain ⟨a0_0, f0_0, _, w0_0⟩ := DataW.trod_int Try.underlying2 e0_0
  simp only [List.cons.injEq, and_true] at f0_0
  subst f0_0
  obtain ⟨a0_1, len0_1, cap0_1, z0_1, f0_1, w0_1⟩ : ∃ a len cap zs, c0_1 = .slice a len cap ∧ IsRow .i64 W a len cap zs := by
    rcases open_ints Try.underlying22 Try.underlying2 (by kernel_rfl) e0_1 with ⟨hcs, _⟩ | ⟨x, l, c, zs, hcs, _, hl, hm, hz, _, hcell, hwz⟩
    · simp only [List.cons.injEq, and_true] at hcs
      exact ⟨none, 0, 0, [], hcs, .inl ⟨rfl, rfl, rfl, rfl⟩⟩
    · simp only [List.cons.injEq, and_true] at hcs
      exact ⟨some x, l, c, zs, hcs, .inr ⟨_, rfl, hl, hm, by simpa using hz, hcell, hwz⟩⟩
  subst f0_1
  obtain ⟨a0_2, len0_2, cap0_2, z0_2, f0_2, w0_2⟩ : ∃ a len cap zs, c0_2 = .slice a len cap ∧ IsRow .i64 W a len cap zs := by
    rcases open_ints Try.underlying22 Try.underlying2 (by kernel_rfl) e0_2 with ⟨hcs, _⟩ | ⟨x, l, c, zs, hcs, _, hl, hm, hz, _, hcell, hwz⟩
    · simp only [List.cons.injEq, and_true] at hcs
      exact ⟨none, 0, 0, [], hcs, .inl ⟨rfl, rfl, rfl, rfl⟩⟩
    · simp only [List.cons.injEq, and_true] at hcs
      exact ⟨some x, l, c, zs, hcs, .inr ⟨_, rfl, hl, hm, by simpa using hz, hcell, hwz⟩⟩
  subst f0_2
  have k1 := h1
  have lt1 : ∀ x ∈ p1, x.block < W.heap.size := by obtain ⟨m, hm⟩ := k1; exact DataW.trod_lt m _ _ _ hm
  obtain ⟨c1_0, c1_1, c1_2, y1_0, y1_1, y1_2, n1, rfl, rfl, rfl, e1_0, e1_1, e1_2⟩ := Go.Joins.open_agg3 Try.underlying49 (by kernel_rfl) (by kernel_rfl) (hval 1 49 v1 rfl rfl) h1
  obtain ⟨a1_0, f1_0, _, w1_0⟩ := DataW.trod_int Try.underlying2 e1_0
  simp only [List.cons.injEq, and_true] at f1_0
  subst f1_0
  obtain ⟨a1_1, len1_1, cap1_1, z1_1, f1_1, w1_1⟩ : ∃ a len cap zs, c1_1 = .slice a len cap ∧ IsRow .i64 W a len cap zs := by
    rcases open_ints Try.underlying22 Try.underlying2 (by kernel_rfl) e1_1 with ⟨hcs, _⟩ | ⟨x, l, c, zs, hcs, _, hl, hm, hz, _, hcell, hwz⟩
    · simp only [List.cons.injEq, and_true] at hcs
      exact ⟨none, 0, 0, [], hcs, .inl ⟨rfl, rfl, rfl, rfl⟩⟩
    · simp only [List.cons.injEq, and_true] at hcs
      exact ⟨some x, l, c, zs, hcs, .inr ⟨_, rfl, hl, hm, by simpa using hz, hcell, hwz⟩⟩
  subst f1_1
  obtain ⟨a1_2, len1_2, cap1_2, z1_2, f1_2, w1_2⟩ : ∃ a len cap zs, c1_2 = .slice a len cap ∧ IsRow .i64 W a len cap zs := by
    rcases open_ints Try.underlying22 Try.underlying2 (by kernel_rfl) e1_2 with ⟨hcs, _⟩ | ⟨x, l, c, zs, hcs, _, hl, hm, hz, _, hcell, hwz⟩
    · simp only [List.cons.injEq, and_true] at hcs
      exact ⟨none, 0, 0, [], hcs, .inl ⟨rfl, rfl, rfl, rfl⟩⟩
    · simp only [List.cons.injEq, and_true] at hcs
      exact ⟨some x, l, c, zs, hcs, .inr ⟨_, rfl, hl, hm, by simpa using hz, hcell, hwz⟩⟩
  subst f1_2
  obtain ⟨a2, rfl, rfl, rfl, w2⟩ := open_int Try.underlying2 (hval 2 2 v2 rfl rfl) h2
  clear hA0 hval0 hsz0 hsz
  refine (Pr.laws_FnExactMergeRules.walk Pure.FnExactMergeRules a0_0 a0_1 len0_1 cap0_1 z0_1 a0_2 len0_2 cap0_2 z0_2 a1_0 a1_1 len1_1 cap1_1 z1_1 a1_2 len1_2 cap1_2 z1_2 a2 W w0_0 w0_1 w0_2 w1_0 w1_1 w1_2 w2).mono fun e W' ⟨he, bel⟩ => ?_
  subst he
  exact ⟨_, rfl, _, _, _, [], _, [], hW', trodAll_mk1 (shut_bool Try.underlying4 _), (trodAll_cons_mk (Below.trod laidOut (by kernel_rfl) (of_decide_eq_true (by kernel_rfl)) k0 bel lt0) (trodAll_cons_mk (Below.trod laidOut (by kernel_rfl) (of_decide_eq_true (by kernel_rfl)) k1 bel lt1) (trodAll_cons_mk (shut_int Try.underlying2 w2) trodAll_mk0))), rfl, bel.frame _, fun h => by cases h⟩
theorem over : Rows.fnExactMergeRulesRow.holds Try.pinned (OpenSpec.ofChange Rows.fnExactMergeRulesSpec) :=
  OpenClaim.holds_of_wide 5 Try.f5 rfl rfl rfl rfl rfl rfl rfl ⟨rfl, rfl, rfl, rfl, rfl⟩ rfl rfl rfl rfl rfl (by kernel_rfl) Try.func5 (by kernel_rfl)
    (of_decide_eq_true (by kernel_rfl)) (by unfold Func.isWrapper; first | (rw [if_pos (by decide +kernel)]; kernel_rfl) | (rw [if_neg (by decide +kernel)]; exact ⟨rfl, rfl⟩))
    (fun os started H enc _ => lifted os started H enc)
theorem proved : Rows.FnExactMergeRulesSaid := over
#print axioms proved
end Go.Proofs.Ytjdannndpfkadaa.fnExactMergeRules
namespace Go.Proofs.Ytjdannndpfkadaa
/-- The row, under a short name, for the claim. -/
theorem fnExactMergeRules_holds : Rows.FnExactMergeRulesSaid := fnExactMergeRules.proved
end Go.Proofs.Ytjdannndpfkadaa
