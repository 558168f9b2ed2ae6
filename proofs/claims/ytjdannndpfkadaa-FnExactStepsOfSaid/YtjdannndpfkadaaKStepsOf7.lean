/- Texts of this session in one: what functions of the program compute, and plain facts of it, under the conditions that each theorem names. -/
import Derived.Below
import Derived.ChangeOld
import Derived.Lib.SmallJoins
import Derived.OpenShut
import Derived.ProofKit
import Derived.ShutString
import Derived.SizedLaws
import Derived.Test.YtjdannndpfkadaaRows
import Derived.WalkKit
import Derived.Test.YtjdannndpfkadaaKFlawsFnExactStepsOf
import Derived.Test.YtjdannndpfkadaaKStepsOf4
import Derived.Test.YtjdannndpfkadaaKStepsOf6
import Derived.Test.YtjdannndpfkadaaWSized
namespace Go.Proofs.Ytjdannndpfkadaa.Pure
/- FnExactStepsOf: for every input the law answers true: the program's StepsOf and the reference's come to one value, and the law's own copies, marks and comparisons answer as they have to. No condition. -/
open Go.RowKit Go.Proofs.Ytjdannndpfkadaa.Pr Go.Proofs.YtjdannndpfkadaaW.PrintWords Go.Proofs.YtjdannndpfkadaaW.PrintLast
theorem FnExactStepsOf : laws_FnExactStepsOf.Pure := by
  intro a0_0 l0_1 w0_0 ml0_1 wl0_1
  have main : Ev (fun k => laws_FnExactStepsOf.f k a0_0 l0_1) true := by
    unfold laws_FnExactStepsOf.f
    by_cases z0 : l0_1.length ≤ 1048576
    case neg => exact Ev.bindE (szMoments_no _ l0_1 (by unfold maxLen at ml0_1; omega) (1048576) (by omega) (by omega)) (Ev.pos (by omega) (Ev.now _))
    refine Ev.bindE (szMoments_yes _ l0_1 (1048576) (by omega) z0) (Ev.neg (by omega) ?_)
    have sl0_1 : Sm l0_1.length := by unfold Sm; omega
    have bw0_0 := wf64 w0_0
    obtain ⟨v, hspec, himpl, hv0⟩ := StepsOf_both a0_0 l0_1 sl0_1
    repeat' first
      | exact Ev.now _
      | refine Ev.bind hspec ?_
      | refine Ev.bind himpl ?_
      | refine Ev.bind (toMoments_ev _ _ (by first | assumption | (rw [marks_length]; assumption))) ?_
      | refine Ev.bind (eqMoments_ev _ _ (by first | assumption | (rw [marks_length]; assumption))) ?_
      | refine Ev.bind (markMoments_ev _ _ (by first | assumption | (rw [marks_length]; assumption)) 1 (by omega)) ?_
      | refine Ev.bind (markMoments_ev _ _ (by first | assumption | (rw [marks_length]; assumption)) _ (by dsimp only; unfold Sm at *; omega)) ?_
      | refine Ev.bind (toInt64S_ev _ (by first | assumption | (rw [marks_length]; assumption))) ?_
      | refine Ev.bind (eqInt64S_ev _ (by first | assumption | (rw [marks_length]; assumption))) ?_
      | refine Ev.bind (markInt64S_ev _ 1 (by first | assumption | (rw [marks_length]; assumption)) (by omega)) ?_
      | refine Ev.bind (markInt64S_ev _ _ (by first | assumption | (rw [marks_length]; assumption)) (by dsimp only; unfold Sm at *; omega)) ?_
      | refine Ev.bind (heldInt64S_ev _ 1 (by first | assumption | (rw [marks_length]; assumption)) (by omega)) ?_
      | refine Ev.pos (by first | rfl | omega | (dsimp only; omega)) ?_
      | refine Ev.neg (by first | exact ne_self _ | omega | (dsimp only; omega) | decide) ?_
      | refine Ev.step (fun k => by rw [laws_FnExactStepsOf.j0]) ?_
      | refine Ev.step (fun k => by rw [laws_FnExactStepsOf.j1]) ?_
      | refine Ev.step (fun k => by rw [laws_FnExactStepsOf.j2]) ?_
      | refine Ev.step (fun k => by rw [laws_FnExactStepsOf.j3]) ?_
      | refine Ev.step (fun k => by rw [laws_FnExactStepsOf.j4]) ?_
      | refine Ev.step (fun k => by rw [laws_FnExactStepsOf.j5]) ?_
  exact main.rounds
end Go.Proofs.Ytjdannndpfkadaa.Pure
namespace Go.Proofs.Ytjdannndpfkadaa.fnExactStepsOf
open Go.ChangeShapes Go.WideShapes Go.ChangeAt Go.RowKit
open Go.ChangeMaps (open_string shut_string)
set_option linter.unusedVariables false
theorem own : ownKnob Try.prog.godebug = none := by kernel_rfl
theorem laidOut : laidOutB Try.prog = true := by kernel_rfl
def IsRow (k : IntKind) (w : World) (a : Option Addr) (len cap : Nat) (zs : List Int) : Prop :=
  (a = none ∧ len = 0 ∧ cap = 0 ∧ zs = []) ∨
  ∃ x, a = some x ∧ len ≤ cap ∧ cap ≤ maxLen ∧ zs.length = cap ∧ (∀ i, i < zs.length → w.cell? (x.add i) = some (.int k (zs.getD i 0))) ∧ ∀ n ∈ zs, (Lit.int k n).wf = true
set_option maxRecDepth 100000 in
theorem lifted (os : Os) (started : os.Started) (H : Type) (enc : TypeId × Value → H) :
    ReturnsInHanded {} Try.checked os 4 .any (Rows.fnExactStepsOfSpec.pre6 enc Try.prog Try.f4 Rows.fnExactStepsOfRow.domain false) (Rows.fnExactStepsOfSpec.post enc Try.prog Try.f4 false true false false) := by
  refine returnsInHanded_of_change_sized (C := Try.checked) own started (by kernel_rfl) Try.func4
    (ChangeSpec.witness6 (enc := enc) (C := Try.checked) false ⟨#[], #[.agg #[.int .i64 0, .slice none 0 0]], []⟩ 8 (by kernel_rfl) (by kernel_rfl) (by kernel_rfl) (by kernel_rfl)) ?_
  intro W base args ds gs before hval0 hW hcnd hsz0 _
  have hsz : (DataW.weightsEach Try.prog (Try.f4.params.toList ++ Rows.fnExactStepsOfSpec.plain.varTypes Try.prog) (ds ++ gs)).all (· ≤ reachBytes) = true := hsz0
  have hval : ∀ (j : Nat) t v, Try.f4.params[j]? = some t → args[j]? = some v → Value.okWide Try.prog W .any base t v := hval0
  have hW' := hW
  obtain ⟨p, q, hA0, hV, rfl, hfz, hnd⟩ := hW
  have hA : DataW.TrodAll enc Try.prog W 0 (fun _ => true) true Try.f4.params.toList args.toList ds p := hA0
  rw [Try.params4] at hA hval hsz
  obtain ⟨v0, vs0, d0, ds0, p0, q0, hargs, rfl, rfl, h0, r0⟩ := trodAll_cons hA
  obtain ⟨rfl, rfl, rfl⟩ := trodAll_nil r0
  obtain rfl : args = #[v0] := by cases args; simp_all
  obtain ⟨rfl, rfl⟩ := trodVars_none hV
  have k0 := h0
  have lt0 : ∀ x ∈ p0, x.block < W.heap.size := by obtain ⟨m, hm⟩ := k0; exact DataW.trod_lt m _ _ _ hm
  obtain ⟨c0_0, c0_1, y0_0, y0_1, n0, rfl, rfl, rfl, e0_0, e0_1⟩ := Go.Joins.open_agg2 Try.underlying37 (by kernel_rfl) (by kernel_rfl) (hval 0 37 v0 rfl rfl) h0
  obtain ⟨a0_0, f0_0, _, w0_0⟩ := DataW.trod_int Try.underlying2 e0_0
  simp only [List.cons.injEq, and_true] at f0_0
  subst f0_0
  obtain ⟨a0_1, len0_1, cap0_1, z0_1, f0_1, w0_1⟩ : ∃ a len cap zs, c0_1 = .slice a len cap ∧ IsRow .i64 W a len cap zs := by
    rcases open_ints Try.underlying22 Try.underlying2 (by kernel_rfl) e0_1 with ⟨hcs, _⟩ | ⟨x, l, c, zs, hcs, _, hl, hm, hz, _, hcell, hwz⟩
    · simp only [List.cons.injEq, and_true] at hcs
      exact ⟨none, 0, 0, [], hcs, .inl ⟨rfl, rfl, rfl, rfl⟩⟩
    · simp only [List.cons.injEq, and_true] at hcs
      exact ⟨some x, l, c, zs, hcs, .inr ⟨_, rfl, hl, hm, by simpa using hz, hcell, hwz⟩⟩
  subst f0_1
  clear hA0 hval0 hsz0 hsz
  refine (Pr.laws_FnExactStepsOf.walk Pure.FnExactStepsOf a0_0 a0_1 len0_1 cap0_1 z0_1 W w0_0 w0_1).mono fun e W' ⟨he, bel⟩ => ?_
  subst he
  exact ⟨_, rfl, _, _, _, [], _, [], hW', trodAll_mk1 (shut_bool Try.underlying4 _), (trodAll_cons_mk (Below.trod laidOut (by kernel_rfl) (of_decide_eq_true (by kernel_rfl)) k0 bel lt0) trodAll_mk0), rfl, bel.frame _, fun h => by cases h⟩
theorem over : Rows.fnExactStepsOfRow.holds Try.pinned (OpenSpec.ofChange Rows.fnExactStepsOfSpec) :=
  OpenClaim.holds_of_wide 4 Try.f4 rfl rfl rfl rfl rfl rfl rfl ⟨rfl, rfl, rfl, rfl, rfl⟩ rfl rfl rfl rfl rfl (by kernel_rfl) Try.func4 (by kernel_rfl)
    (of_decide_eq_true (by kernel_rfl)) (by unfold Func.isWrapper; first | (rw [if_pos (by decide +kernel)]; kernel_rfl) | (rw [if_neg (by decide +kernel)]; exact ⟨rfl, rfl⟩))
    (fun os started H enc _ => lifted os started H enc)
theorem proved : Rows.FnExactStepsOfSaid := over
#print axioms proved
end Go.Proofs.Ytjdannndpfkadaa.fnExactStepsOf
namespace Go.Proofs.Ytjdannndpfkadaa
/-- The row, under a short name, for the claim. -/
theorem fnExactStepsOf_holds : Rows.FnExactStepsOfSaid := fnExactStepsOf.proved
end Go.Proofs.Ytjdannndpfkadaa
