/- Texts of this session in one: what functions of the program compute, and plain facts of it, under the conditions that each theorem names. -/
import Derived.Below
import Derived.ChangeOld
import Derived.OpenShut
import Derived.ProofKit
import Derived.ShutString
import Derived.SizedLaws
import Derived.Test.YtknppcledhnkoaaRows
import Derived.WalkKit
import Derived.Test.YtknppcledhnkoaaKFlawsFnFoundData
import Derived.Test.YtknppcledhnkoaaKData14
import Derived.Test.YtknppcledhnkoaaKData8
import Derived.Test.YtknppcledhnkoaaKWSized
namespace Go.Proofs.Ytknppcledhnkoaa.Pure
/- FnFoundData: for every input the law answers true. No condition. -/
open Go Go.RowKit Go.Proofs.Ytknppcledhnkoaa.Pr Go.Proofs.YtknppcledhnkoaaW.PrintWords Go.Proofs.YtknppcledhnkoaaW.PrintLast
theorem FnFoundData : ay.Pure := by
  intro c _ _ hw
  have hb : ∀ x ∈ c, 0 ≤ x ∧ x < 256 := fun x hx => by
    have h := hw x hx
    have h2 : IntKind.u8.min ≤ x ∧ x ≤ IntKind.u8.max := by simpa [Lit.wf] using h
    have h3 : (0 : Int) ≤ x := h2.1
    have h4 : x ≤ 255 := h2.2
    omega
  have main : Ev (fun k => ay.f k c) true := by
    unfold ay.f
    by_cases hl : c.length ≤ 4096
    case neg => exact Ev.dx (a := true) (by unfold mM.f; rw [decide_eq_true (by omega)]) (Ev.pos rfl (Ev.now _))
    refine Ev.dx (a := false) (by unfold mM.f; rw [decide_eq_false (by omega)]) (Ev.neg (by decide) ?_)
    obtain ⟨⟨p, a, b⟩, d1, s1, s1'⟩ := AC hb hl
    obtain ⟨⟨q, f, g, u⟩, d2, s2, s2'⟩ := AP hb hl
    obtain ⟨⟨r, a2, b2, m, e⟩, d3, s3, s3'⟩ := AJ hb hl
    obtain ⟨⟨t, a3, b3, n3⟩, d4, s4, s4'⟩ := AL hb hl
    obtain ⟨⟨w, a4, b4, n4⟩, d5, s5, s5'⟩ := xx hb hl
    dsimp only at s1 s1' s2 s2' s3 s3' s4 s4' s5 s5'
    obtain ⟨v, vs, vi, vl, vy⟩ := oP p a b s1 s1'
    obtain ⟨x, xs, xi, xl, xy⟩ := tV r a2 b2 m e s3 s3'
    obtain ⟨y, ys, yi, yl⟩ := ww t a3 b3 n3 s4 s4'
    obtain ⟨z, zs, zi, zl⟩ := tX w a4 b4 n4 s5 s5'
    have seven : Ev (fun k => ay.j7 k c) true := by
      refine Ev.step (fun k => by rw [ay.j7]) ?_
      exact Ev.bind d4 (Ev.bind yi (Ev.bind ys (Ev.bind d5 (Ev.bind zi (Ev.bind zs (Ev.pos rfl (Ev.bind (nM _ yl.1 yl.2) (Ev.pos rfl (Ev.pos rfl (Ev.bind (nM _ zl.1 zl.2) (Ev.now _)))))))))))
    have six : ∀ o i p1 a1 b1 p2 a2' b2' m' e', Ev (fun k => ay.j6 k c m' e' o i false p1 a1 b1 p2 a2' b2') true := fun o i p1 a1 b1 p2 a2' b2' m' e' => by
      refine Ev.step (fun k => by rw [ay.j6]) ?_
      exact Ev.neg (by decide) seven
    have loop : iI r a2 b2 = true → (1 ≤ m ∧ m < r) → (0 ≤ e ∧ e < r) → ∀ d i : Nat, i + d = 3 → Ev (fun k => ay.l0 k c m e (a2.length : Int) (i : Int) r a2 b2 r (ky r m e a2.length 0 a2 b2).1 (ky r m e a2.length 0 a2 b2).2) true := by
      intro hj hm he d
      have hq := iI.o7 hj
      have hp := iI.pm hj
      have h2 := hp.two
      have ht := hp.top
      obtain ⟨⟨⟨h4, h5⟩, h6⟩, h7, h8⟩ := iI.all hj
      induction d with
      | zero =>
        intro i hi
        refine Ev.step (fun k => by rw [ay.l0]) ?_
        exact Ev.neg (by omega) (six _ _ _ _ _ _ _ _ _ _)
      | succ d ih =>
        intro i hi
        refine Ev.step (fun k => by rw [ay.l0]) ?_
        refine Ev.pos (by omega) ?_
        by_cases hx : (i : Int) < r
        · rw [decide_eq_true hx]
          have hmx := rz hp (a := m) (b := (i : Int)) (by omega) hm.2 (by omega) hx
          have w1 : wrap64 (wrap64 (m * (i : Int)) + e) = m * (i : Int) + e := by rw [bQ (x := m * (i : Int)) (by omega) (by omega), bQ (by omega) (by omega)]
          have hv := Du hp m a2.length
          have hv2 := CS hp (i : Int) (dH r a2 b2 a2.length).2
          have hmul := rz hp hv.1 hv.2 hv2.1 hv2.2
          have hn := (tO r m e a2.length 0 a2 b2 (by omega) h6).1
          refine Ev.step (fun k => by rw [ay.j6]) ?_
          rw [w1, iG (by omega)]
          refine Ev.pos rfl (Ev.neg hp.ne (Ev.bind (qB (GI hj hm e) (n := a2.length) (by omega) (iD hp.pos _)) (Ev.bind (qB hj (Nat.le_refl _) ⟨by omega, hx⟩) (Ev.bind (vP hq (n := a2.length) (by omega) (by omega)) (Ev.pos rfl (Ev.pos rfl (Ev.pos rfl (Ev.pos ?_ ?_))))))))
          · dsimp only
            rw [bQ (by omega) (by omega), iG (by omega)]
            exact DI hj m e (i : Int)
          · rw [lT (i := i) (n := 10) (by omega) (by omega)]
            exact ih (i + 1) (by omega)
        · rw [decide_eq_false hx]
          exact six _ _ _ _ _ _ _ _ _ _
    have three : Ev (fun k => ay.j3 k c) true := by
      refine Ev.step (fun k => by rw [ay.j3]) ?_
      refine Ev.bind d3 (Ev.bind xi (Ev.bind xs (Ev.pos rfl (Ev.bind (nM _ xl.1 xl.2) ?_))))
      refine Ev.step (fun k => by rw [ay.j4]) (Ev.neg (by decide) ?_)
      by_cases h0 : x.2.2.2 = 0
      · obtain ⟨j1, j2, j3, j4⟩ := xy h0
        refine Ev.pos h0 ?_
        rw [j4]
        exact loop j1 j2 j3 3 0 rfl
      · exact Ev.neg h0 seven
    have one : Ev (fun k => ay.j1 k c) true := by
      refine Ev.step (fun k => by rw [ay.j1]) ?_
      have fi := uD q f g u s2 s2'
      have fs := AA q f g u s2 s2'
      by_cases h0 : (pz q f g u).2.2.2 = 0
      · obtain ⟨a', b', e1, e2, e3, e4⟩ := Er h0
        obtain ⟨⟨⟨h4, h5⟩, h6⟩, h7, h8⟩ := iI.all e2
        have hp := iI.pm e2
        rw [e1] at fi fs
        refine Ev.bind d2 (Ev.bind fi (Ev.bind fs (Ev.pos rfl (Ev.bind (nM _ (by dsimp only; unfold Sm; omega) (by dsimp only; unfold Sm; omega)) ?_))))
        refine Ev.step (fun k => by rw [ay.j2]) (Ev.neg (by decide) (Ev.pos rfl ?_))
        dsimp only
        rw [nT (i := a'.length) (by omega) (by omega)]
        refine Ev.bind (l9 e2 (Nat.le_refl _)) (Ev.bind (l9 e2 (Nat.sub_le _ _)) (Ev.pos rfl (Ev.pos rfl ?_)))
        dsimp only
        rw [e3, e4]
        exact Ev.bind (sI f s2) (Ev.pos rfl (Ev.bind (sI g s2') (Ev.pos rfl three)))
      · have sl : Sm (pz q f g u).2.1.length ∧ Sm (pz q f g u).2.2.1.length := by
          unfold pz at h0 ⊢
          split
          · split
            · rename_i c1 c2
              rw [if_pos c1, if_pos c2] at h0
              generalize jL q (f.length - 1) f g (List.replicate (f.length - 1) 0) ((List.replicate (f.length - 1) 0).set 0 u) = o at h0 ⊢
              cases o with
              | none => exact ⟨Sm0, Sm0⟩
              | some r => exact absurd rfl h0
            · exact ⟨Sm0, Sm0⟩
          · exact ⟨Sm0, Sm0⟩
        refine Ev.bind d2 (Ev.bind fi (Ev.bind fs (Ev.pos rfl (Ev.bind (nM _ sl.1 sl.2) ?_))))
        refine Ev.step (fun k => by rw [ay.j2]) (Ev.neg (by decide) (Ev.neg h0 three))
    refine Ev.bind d1 (Ev.bind vi (Ev.bind vs (Ev.pos rfl (Ev.bind (nM _ vl.1 vl.2) ?_))))
    refine Ev.step (fun k => by rw [ay.j0]) (Ev.neg (by decide) ?_)
    by_cases hj : iI p a b = true
    · have e1 : v = (p, a.reverse, rA b, 0) := by rw [vy, if_pos hj]; rfl
      obtain ⟨⟨⟨h4, h5⟩, h6⟩, h7, h8⟩ := iI.all hj
      have hp := iI.pm hj
      have l1 := (jG hp a b a.length).2.2
      have l2 := (jG hp a b (a.length - 1)).2.2
      have rj := G6 hj
      have rv : Ev (fun k => fq.f k p a.reverse (rA b)) (p, a, b, 0) := by
        obtain ⟨v2, _, w2, _, y2⟩ := oP p a.reverse (rA b) (by rw [List.length_reverse]; exact s1) (by rw [AU (by omega)]; exact s1')
        rw [if_pos rj, List.reverse_reverse, show (rA b).getD 0 0 :: ((rA b).drop 1).reverse = b from Ep (by omega)] at y2
        rw [y2] at w2
        exact w2
      rw [e1]
      refine Ev.pos rfl (Ev.bind (l9 hj (Nat.le_refl _)) ?_)
      dsimp only
      rw [nT (i := a.length) (by omega) (by omega)]
      refine Ev.bind (l9 rj (n := a.length) (by rw [List.length_reverse]; exact Nat.le_refl _)) (Ev.bind rv (Ev.bind (l9 hj (Nat.sub_le _ _)) (Ev.pos (by omega) ?_)))
      have ff := uD p (dH p a b a.length).2 (dH p a b (a.length - 1)).2 (b.getD 0 0) (by unfold Sm; omega) (by unfold Sm; omega)
      rw [AV hj] at ff
      dsimp only
      rw [show rd b 0 = b.getD 0 0 from fw b 0]
      refine Ev.bind ff (Ev.pos rfl (Ev.pos rfl (Ev.pos rfl (Ev.pos rfl (Ev.pos rfl ?_)))))
      dsimp only
      rw [FT hj]
      exact Ev.bind (sI _ (by unfold Sm; omega)) (Ev.pos rfl (Ev.bind (nM p s1 s1') (Ev.pos rfl (Ev.bind (nM p s1 s1') (Ev.pos rfl one)))))
    · exact Ev.neg (by rw [vy, if_neg hj]; decide) one
  exact main.rounds
end Go.Proofs.Ytknppcledhnkoaa.Pure
namespace Go.Proofs.Ytknppcledhnkoaa.fnFoundData
open Go.ChangeShapes Go.WideShapes Go.ChangeAt Go.RowKit
open Go.ChangeMaps (open_string shut_string)
set_option linter.unusedVariables false
theorem own : ownKnob Try.prog.godebug = none := by kernel_rfl
theorem laidOut : laidOutB Try.prog = true := by kernel_rfl
def Lu (k : IntKind) (w : World) (a : Option Addr) (len cap : Nat) (zs : List Int) : Prop :=
  (a = none ∧ len = 0 ∧ cap = 0 ∧ zs = []) ∨
  ∃ x, a = some x ∧ len ≤ cap ∧ cap ≤ maxLen ∧ zs.length = cap ∧ (∀ i, i < zs.length → w.cell? (x.add i) = some (.int k (zs.getD i 0))) ∧ ∀ n ∈ zs, (Lit.int k n).wf = true
set_option maxRecDepth 100000 in
theorem lifted (os : Os) (started : os.Started) (H : Type) (enc : TypeId × Value → H) :
    ReturnsInHanded {} Try.checked os 4 .any (Rows.fnFoundDataSpec.pre6 enc Try.prog Try.f4 Rows.fnFoundDataRow.domain false) (Rows.fnFoundDataSpec.post enc Try.prog Try.f4 false true false false) := by
  refine returnsInHanded_of_change_sized (C := Try.checked) own started (by kernel_rfl) Try.func4
    (ChangeSpec.witness6 (enc := enc) (C := Try.checked) false ⟨#[], #[.slice none 0 0], []⟩ 8 (by kernel_rfl) (by kernel_rfl) (by kernel_rfl) (by kernel_rfl)) ?_
  intro W base args ds gs before hval0 hW hcnd hsz0 _
  have hsz : (DataW.weightsEach Try.prog (Try.f4.params.toList ++ Rows.fnFoundDataSpec.plain.varTypes Try.prog) (ds ++ gs)).all (· ≤ reachBytes) = true := hsz0
  have hval : ∀ (j : Nat) t v, Try.f4.params[j]? = some t → args[j]? = some v → Value.okWide Try.prog W .any base t v := hval0
  have hW' := hW
  obtain ⟨p, q, hA0, hV, rfl, hfz, hnd⟩ := hW
  have hA : DataW.TrodAll enc Try.prog W 0 (fun _ => true) true Try.f4.params.toList args.toList ds p := hA0
  rw [Try.params4] at hA hval hsz
  obtain ⟨v0, vs0, d0, ds0, p0, q0, hargs, rfl, rfl, h0, r0⟩ := trodAll_cons hA
  obtain ⟨rfl, rfl, rfl⟩ := trodAll_nil r0
  obtain rfl : args = #[v0] := by cases args; simp_all
  obtain ⟨rfl, rfl⟩ := trodVars_none hV
  obtain ⟨a0, JR, cap0, rfl⟩ := okWide_slice Try.underlying22 (hval 0 22 v0 rfl rfl)
  have k0 := h0
  have lt0 : ∀ x ∈ p0, x.block < W.heap.size := by obtain ⟨m, hm⟩ := k0; exact DataW.trod_lt m _ _ _ hm
  obtain ⟨z0, w0⟩ : ∃ zs, Lu .u8 W a0 JR cap0 zs := by
    obtain ⟨fuel, hf⟩ := h0
    rcases open_ints Try.underlying22 Try.underlying5 (by kernel_rfl) hf with ⟨hcs, _⟩ | ⟨x, l, c, zs, hcs, _, hl, hm, hz, _, hcell, hwz⟩
    · simp [Value.cells] at hcs
      obtain ⟨rfl, rfl, rfl⟩ := hcs
      exact ⟨[], .inl ⟨rfl, rfl, rfl, rfl⟩⟩
    · simp [Value.cells] at hcs
      obtain ⟨rfl, rfl, rfl⟩ := hcs
      exact ⟨zs, .inr ⟨_, rfl, hl, hm, by simpa using hz, hcell, hwz⟩⟩
  have y0 : JR * 1 ≤ 140737488351232 := Go.Proofs.YtknppcledhnkoaaW.PrintWords.Cy hsz (j := 0) (t := 22) rfl rfl Try.underlying22 Try.underlying5 (by kernel_rfl) (by kernel_rfl) h0
  clear hA0 hval0 hsz0 hsz
  refine (Pr.ay.walk Pure.FnFoundData a0 JR cap0 z0 W w0 y0).mono fun e W' ⟨he, bel⟩ => ?_
  subst he
  exact ⟨_, rfl, _, _, _, [], _, [], hW', trodAll_mk1 (shut_bool Try.underlying4 _), (trodAll_cons_mk (Below.trod laidOut (by kernel_rfl) (of_decide_eq_true (by kernel_rfl)) k0 bel lt0) trodAll_mk0), rfl, bel.frame _, fun h => by cases h⟩
theorem over : Rows.fnFoundDataRow.holds Try.pinned (OpenSpec.ofChange Rows.fnFoundDataSpec) :=
  OpenClaim.holds_of_wide 4 Try.f4 rfl rfl rfl rfl rfl rfl rfl ⟨rfl, rfl, rfl, rfl, rfl⟩ rfl rfl rfl rfl rfl (by kernel_rfl) Try.func4 (by kernel_rfl)
    (of_decide_eq_true (by kernel_rfl)) (by unfold Func.isWrapper; first | (rw [if_pos (by decide +kernel)]; kernel_rfl) | (rw [if_neg (by decide +kernel)]; exact ⟨rfl, rfl⟩))
    (fun os started H enc _ => lifted os started H enc)
theorem proved : Rows.FnFoundDataSaid := over
#print axioms proved
end Go.Proofs.Ytknppcledhnkoaa.fnFoundData
namespace Go.Proofs.Ytknppcledhnkoaa
/-- The row, under a short name, for the claim. -/
theorem fnFoundData_holds : Rows.FnFoundDataSaid := fnFoundData.proved
end Go.Proofs.Ytknppcledhnkoaa
