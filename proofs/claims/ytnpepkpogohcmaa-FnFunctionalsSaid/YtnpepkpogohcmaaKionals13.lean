/- Texts of this session in one: what functions of the program compute, and plain facts of it, under the conditions that each theorem names. -/
import Derived.Below
import Derived.ChangeOld
import Derived.OpenShut
import Derived.ProofKit
import Derived.ShutString
import Derived.SizedLaws
import Derived.Test.YtnpepkpogohcmaaRows
import Derived.WalkKit
import Derived.Test.YtnpepkpogohcmaaKFlawsFnFunctionals
import Derived.Test.YtnpepkpogohcmaaKionals10
import Derived.Test.YtnpepkpogohcmaaKionals12
import Derived.Test.YtnpepkpogohcmaaWSized
namespace Go.Proofs.Ytnpepkpogohcmaa.Pure
/- FnFunctionals: for every input the law answers true. No condition. -/
open Go Go.RowKit Go.Proofs.Ytnpepkpogohcmaa.Pr Go.Proofs.YtnpepkpogohcmaaW.PrintWords Go.Proofs.YtnpepkpogohcmaaW.PrintLast
theorem FnFunctionals : laws_FnFunctionals.Pure := by
  intro c _ _ hw
  have hb : ∀ x ∈ c, 0 ≤ x ∧ x < 256 := fun x hx => by
    have h := hw x hx
    have h2 : IntKind.u8.min ≤ x ∧ x ≤ IntKind.u8.max := by simpa [Lit.wf] using h
    have h3 : (0 : Int) ≤ x := h2.1
    have h4 : x ≤ 255 := h2.2
    omega
  have main : Ev (fun k => laws_FnFunctionals.f k c) true := by
    unfold laws_FnFunctionals.f
    by_cases hl : c.length ≤ 4096
    case neg => exact Ev.bindE (a := true) (by unfold laws_big.f; rw [decide_eq_true (by omega)]) (Ev.pos rfl (Ev.now _))
    refine Ev.bindE (a := false) (by unfold laws_big.f; rw [decide_eq_false (by omega)]) (Ev.neg (by decide) ?_)
    obtain ⟨⟨p, l, f⟩, d1, s1, s1'⟩ := drawApply_ex hb hl
    obtain ⟨⟨q, m, g⟩, d2, s2, s2'⟩ := drawProd_ex hb hl
    obtain ⟨⟨pu, u⟩, d3, s3⟩ := drawShift_ex hb hl
    obtain ⟨⟨pv, v, kc⟩, d4, s4⟩ := drawCut_ex hb hl
    dsimp only at s1 s1' s2 s2' s3 s4
    obtain ⟨a, ae, ai, ay, an⟩ := ApplyFunctional_val p l f s1 s1'
    obtain ⟨b, bs, bi, bl, by', bn⟩ := ProductMoments_val q m g s2 s2'
    obtain ⟨s, ss, si, sl, sy⟩ := ShiftMoments_val pu u s3
    obtain ⟨t, ts, ti, tl, ty⟩ := CutMoments_val pv v kc s4
    have last : Ev (fun k => laws_FnFunctionals.j6 k f a.1 a.2 false p l) true := by
      refine Ev.step (fun k => by rw [laws_FnFunctionals.j6]) ?_
      refine Ev.neg (by decide) ?_
      by_cases hc : (momB p l && polyB p f) = true ∧ f.length ≤ l.length
      · have ha := ay hc
        have hm : momB p l = true := by have := hc.1; simp only [Bool.and_eq_true] at this; exact this.1
        have hf : polyB p f = true := by have := hc.1; simp only [Bool.and_eq_true] at this; exact this.2
        rw [ha]
        refine Ev.pos rfl (Ev.bind (addSelf_ev (momB.prime hm) f hf s1') ?_)
        obtain ⟨z, _, zi, zy, _⟩ := ApplyFunctional_val p l [] s1 Sm0
        have hz := zy ⟨by rw [hm, polyB_nil]; rfl, Nat.zero_le _⟩
        rw [applyM_nil] at hz
        subst hz
        exact Ev.bind zi (Ev.pos rfl (Ev.pos rfl (Ev.pos rfl (Ev.now _))))
      · obtain ⟨h1, h2⟩ := an hc
        refine Ev.neg h1 (Ev.some' ?_)
        rw [h2]; rfl
    have five : Ev (fun k => laws_FnFunctionals.j5 k f a.1 a.2 kc t.2.2 p l t.1 t.2.1) true := by
      refine Ev.step (fun k => by rw [laws_FnFunctionals.j5]) ?_
      by_cases h : t.2.2 = 0
      · refine Ev.pos h ?_
        rw [ty h, show (kc != kc) = false from by simp]
        exact last
      · exact Ev.neg h last
    have four : Ev (fun k => laws_FnFunctionals.j4 k f a.1 a.2 s.2.2 kc t.2.2 p l pu u s.1 s.2.1 t.1 t.2.1) true := by
      refine Ev.step (fun k => by rw [laws_FnFunctionals.j4]) ?_
      by_cases h : s.2.2 = 0
      · obtain ⟨hm, h2, hs⟩ := sy h
        obtain ⟨z, _, zi, _, zy, _⟩ := ProductMoments_val pu u [0, 1] s3 (by simp [Sm])
        have hz := zy ⟨by rw [hm, polyB_x (momB.pm hm)]; rfl, h2⟩
        rw [prodL_x (momB.nm hm) h2] at hz
        refine Ev.pos h (Ev.bind zi ?_)
        rw [hz, hs]
        exact Ev.pos rfl (Ev.bind (moments9_ev _ _ (Sm.drop s3 1)) (Ev.pos rfl five))
      · exact Ev.neg h five
    have three : Ev (fun k => laws_FnFunctionals.j3 k f a.1 a.2 g b.2.2 s.2.2 kc t.2.2 false p l q m b.1 b.2.1 pu u s.1 s.2.1 t.1 t.2.1) true := by
      refine Ev.step (fun k => by rw [laws_FnFunctionals.j3]) ?_
      refine Ev.neg (by decide) ?_
      by_cases hc : (momB q m && polyB q g) = true ∧ g.length ≤ m.length
      · have hz := by' hc
        obtain ⟨z, _, zi, zy, _⟩ := ApplyFunctional_val q m g s2 s2'
        have hy := zy hc
        subst hy
        have hm : momB q m = true := by have := hc.1; simp only [Bool.and_eq_true] at this; exact this.1
        have hlen := momB.len hm
        have hgl := hc.2
        have hn : 1 ≤ m.length + 1 - max g.length 1 := by omega
        refine Ev.pos (by rw [hz]) (Ev.bind zi (Ev.pos rfl (Ev.pos (by rw [hz]; dsimp only; rw [prodL_len]; omega) (Ev.pos ?_ four))))
        rw [hz]
        dsimp only
        rw [show (0 : Int) = ((0 : Nat) : Int) from rfl, rd_nat]
        exact prodL_head hn
      · exact Ev.neg (bn hc) four
    have two : Ev (fun k => laws_FnFunctionals.j2 k c f a.1 a.2 g b.2.2 s.2.2 false p l q m b.1 b.2.1 pu u s.1 s.2.1) true := by
      refine Ev.step (fun k => by rw [laws_FnFunctionals.j2]) ?_
      exact Ev.neg (by decide) (Ev.bind d4 (Ev.bind ti (Ev.bind ts (Ev.pos rfl (Ev.bind (moments9_ev _ _ tl) three)))))
    have one : Ev (fun k => laws_FnFunctionals.j1 k c f a.1 a.2 g b.2.2 false p l q m b.1 b.2.1) true := by
      refine Ev.step (fun k => by rw [laws_FnFunctionals.j1]) ?_
      exact Ev.neg (by decide) (Ev.bind d3 (Ev.bind si (Ev.bind ss (Ev.pos rfl (Ev.bind (moments9_ev _ _ sl) two)))))
    have nought : Ev (fun k => laws_FnFunctionals.j0 k c f a.1 a.2 false p l) true := by
      refine Ev.step (fun k => by rw [laws_FnFunctionals.j0]) ?_
      exact Ev.neg (by decide) (Ev.bind d2 (Ev.bind bi (Ev.bind bs (Ev.pos rfl (Ev.bind (moments9_ev _ _ bl) one)))))
    have sa : Ev (fun k => spec_AreMoments.f k p l) (momB p l) := by
      unfold spec_AreMoments.f
      exact Ev.bind (specAre_ev p l s1) (Ev.now _)
    refine Ev.bind d1 (Ev.bind ai (Ev.bind ae (Ev.pos rfl (Ev.pos rfl (Ev.bind (implAre_ev p l s1) (Ev.bind sa ?_))))))
    rw [show (momB p l != momB p l) = false from by simp]
    exact nought
  exact main.rounds
end Go.Proofs.Ytnpepkpogohcmaa.Pure
namespace Go.Proofs.Ytnpepkpogohcmaa.fnFunctionals
open Go.ChangeShapes Go.WideShapes Go.ChangeAt Go.RowKit
open Go.ChangeMaps (open_string shut_string)
set_option linter.unusedVariables false
theorem own : ownKnob Try.prog.godebug = none := by kernel_rfl
theorem laidOut : laidOutB Try.prog = true := by kernel_rfl
def IsRow (k : IntKind) (w : World) (a : Option Addr) (len cap : Nat) (zs : List Int) : Prop :=
  (a = none ∧ len = 0 ∧ cap = 0 ∧ zs = []) ∨
  ∃ x, a = some x ∧ len ≤ cap ∧ cap ≤ maxLen ∧ zs.length = cap ∧ (∀ i, i < zs.length → w.cell? (x.add i) = some (.int k (zs.getD i 0))) ∧ ∀ n ∈ zs, (Lit.int k n).wf = true
set_option maxRecDepth 100000 in
theorem lifted (os : Os) (started : os.Started) (H : Type) (enc : TypeId × Value → H) :
    ReturnsInHanded {} Try.checked os 3 .any (Rows.fnFunctionalsSpec.pre6 enc Try.prog Try.f3 Rows.fnFunctionalsRow.domain false) (Rows.fnFunctionalsSpec.post enc Try.prog Try.f3 false true false false) := by
  refine returnsInHanded_of_change_sized (C := Try.checked) own started (by kernel_rfl) Try.func3
    (ChangeSpec.witness6 (enc := enc) (C := Try.checked) false ⟨#[], #[.slice none 0 0], []⟩ 8 (by kernel_rfl) (by kernel_rfl) (by kernel_rfl) (by kernel_rfl)) ?_
  intro W base args ds gs before hval0 hW hcnd hsz0 _
  have hsz : (DataW.weightsEach Try.prog (Try.f3.params.toList ++ Rows.fnFunctionalsSpec.plain.varTypes Try.prog) (ds ++ gs)).all (· ≤ reachBytes) = true := hsz0
  have hval : ∀ (j : Nat) t v, Try.f3.params[j]? = some t → args[j]? = some v → Value.okWide Try.prog W .any base t v := hval0
  have hW' := hW
  obtain ⟨p, q, hA0, hV, rfl, hfz, hnd⟩ := hW
  have hA : DataW.TrodAll enc Try.prog W 0 (fun _ => true) true Try.f3.params.toList args.toList ds p := hA0
  rw [Try.params3] at hA hval hsz
  obtain ⟨v0, vs0, d0, ds0, p0, q0, hargs, rfl, rfl, h0, r0⟩ := trodAll_cons hA
  obtain ⟨rfl, rfl, rfl⟩ := trodAll_nil r0
  obtain rfl : args = #[v0] := by cases args; simp_all
  obtain ⟨rfl, rfl⟩ := trodVars_none hV
  obtain ⟨a0, len0, cap0, rfl⟩ := okWide_slice Try.underlying22 (hval 0 22 v0 rfl rfl)
  have k0 := h0
  have lt0 : ∀ x ∈ p0, x.block < W.heap.size := by obtain ⟨m, hm⟩ := k0; exact DataW.trod_lt m _ _ _ hm
  obtain ⟨z0, w0⟩ : ∃ zs, IsRow .u8 W a0 len0 cap0 zs := by
    obtain ⟨fuel, hf⟩ := h0
    rcases open_ints Try.underlying22 Try.underlying5 (by kernel_rfl) hf with ⟨hcs, _⟩ | ⟨x, l, c, zs, hcs, _, hl, hm, hz, _, hcell, hwz⟩
    · simp [Value.cells] at hcs
      obtain ⟨rfl, rfl, rfl⟩ := hcs
      exact ⟨[], .inl ⟨rfl, rfl, rfl, rfl⟩⟩
    · simp [Value.cells] at hcs
      obtain ⟨rfl, rfl, rfl⟩ := hcs
      exact ⟨zs, .inr ⟨_, rfl, hl, hm, by simpa using hz, hcell, hwz⟩⟩
  have y0 : len0 * 1 ≤ 140737488351232 := Go.Proofs.YtnpepkpogohcmaaW.PrintWords.sized_ints hsz (j := 0) (t := 22) rfl rfl Try.underlying22 Try.underlying5 (by kernel_rfl) (by kernel_rfl) h0
  clear hA0 hval0 hsz0 hsz
  refine (Pr.laws_FnFunctionals.walk Pure.FnFunctionals a0 len0 cap0 z0 W w0 y0).mono fun e W' ⟨he, bel⟩ => ?_
  subst he
  exact ⟨_, rfl, _, _, _, [], _, [], hW', trodAll_mk1 (shut_bool Try.underlying4 _), (trodAll_cons_mk (Below.trod laidOut (by kernel_rfl) (of_decide_eq_true (by kernel_rfl)) k0 bel lt0) trodAll_mk0), rfl, bel.frame _, fun h => by cases h⟩
theorem over : Rows.fnFunctionalsRow.holds Try.pinned (OpenSpec.ofChange Rows.fnFunctionalsSpec) :=
  OpenClaim.holds_of_wide 3 Try.f3 rfl rfl rfl rfl rfl rfl rfl ⟨rfl, rfl, rfl, rfl, rfl⟩ rfl rfl rfl rfl rfl (by kernel_rfl) Try.func3 (by kernel_rfl)
    (of_decide_eq_true (by kernel_rfl)) (by unfold Func.isWrapper; first | (rw [if_pos (by decide +kernel)]; kernel_rfl) | (rw [if_neg (by decide +kernel)]; exact ⟨rfl, rfl⟩))
    (fun os started H enc _ => lifted os started H enc)
theorem proved : Rows.FnFunctionalsSaid := over
#print axioms proved
end Go.Proofs.Ytnpepkpogohcmaa.fnFunctionals
namespace Go.Proofs.Ytnpepkpogohcmaa
/-- The row, under a short name, for the claim. -/
theorem fnFunctionals_holds : Rows.FnFunctionalsSaid := fnFunctionals.proved
end Go.Proofs.Ytnpepkpogohcmaa
