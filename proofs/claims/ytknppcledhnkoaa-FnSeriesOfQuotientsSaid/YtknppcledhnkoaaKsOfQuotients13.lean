/- Texts of this session in one: what functions of the program compute, and plain facts of it, under the conditions that each theorem names. -/
import Derived.Below
import Derived.ChangeOld
import Derived.OpenShut
import Derived.ProofKit
import Derived.ShutString
import Derived.SizedLaws
import Derived.Test.YtknppcledhnkoaaRows
import Derived.WalkKit
import Derived.Test.YtknppcledhnkoaaKFlawsFnSeriesOfQuotients
import Derived.Test.YtknppcledhnkoaaKsOfQuotients10
import Derived.Test.YtknppcledhnkoaaKsOfQuotients12
import Derived.Test.YtknppcledhnkoaaKWSized
namespace Go.Proofs.Ytknppcledhnkoaa.Pure
/- FnSeriesOfQuotients: for every input the law answers true. No condition. -/
open Go Go.RowKit Go.Proofs.Ytknppcledhnkoaa.Pr Go.Proofs.YtknppcledhnkoaaW.PrintWords Go.Proofs.YtknppcledhnkoaaW.PrintLast
theorem GQ {p : Int} (hp : Pm p) (c f g s : List Int) (ng : Nm p g) (ns : Nm p s) (lg : g.length ≤ 25) (ls : s.length ≤ 24) {k : Nat} (hk : k < s.length) (T : Int) (hT : sumTo (fun i => g.getD i 0 * s.getD (k - i) 0) (k + 1) % p = T)
    (next : Ev (fun n => au.j3 n c p f g s (k : Int) T 0) true) (d : Nat) : ∀ i, i + d = k + 1 →
    Ev (fun n => au.l1 n c p f g s (k : Int) (sumTo (fun i => g.getD i 0 * s.getD (k - i) 0) i % p) 0 (i : Int)) true := by
  induction d with
  | zero =>
    intro i hi
    refine Ev.step (fun n => by rw [au.l1]) ?_
    rw [show i = k + 1 by omega, hT]
    exact Ev.neg (by omega) next
  | succ d ih =>
    intro i hi
    refine Ev.step (fun n => by rw [au.l1]) ?_
    refine Ev.pos (by omega) ?_
    by_cases h : i < g.length
    · have hw : wrap64 ((k : Int) - (i : Int)) = ((k - i : Nat) : Int) := by rw [bT (by omega) (by omega)]; omega
      obtain ⟨q1, q2, q3⟩ := yZ hp (jQ hp.pos (sumTo (fun i => g.getD i 0 * s.getD (k - i) 0) i)) (ng.mq hp.pos i) (ns.mq hp.pos (k - i))
      rw [hw, fI, fI, q1, q2, jk q3, o8, jN (i := i) (n := 100) (by omega) (by omega)]
      clear q1 q2 q3 hw
      exact Ev.pos (by omega) (Ev.pos (by omega) (Ev.pos (by omega) (Ev.pos (by omega) (Ev.neg hp.ne (ih (i + 1) (by omega))))))
    · have e : sumTo (fun i => g.getD i 0 * s.getD (k - i) 0) i = sumTo (fun i => g.getD i 0 * s.getD (k - i) 0) (k + 1) := by
        rw [← hi, zo (fun t ht => by rw [oQ (f := g) (by omega), Int.zero_mul])]
      rw [e, hT]
      exact Ev.neg (by omega) next
theorem GR {p : Int} (hp : Pm p) (c f g s : List Int) (ng : Nm p g) (ns : Nm p s) (lg : g.length ≤ 25) (ls : s.length ≤ 24) (hT : ∀ k, k < s.length → sumTo (fun i => g.getD i 0 * s.getD (k - i) 0) (k + 1) % p = f.getD k 0)
    (next : Ev (fun n => au.j4 n c) true) (d : Nat) : ∀ k, k + d = s.length → Ev (fun n => au.l0 n c p f g s (k : Int)) true := by
  induction d with
  | zero =>
    intro k hk
    refine Ev.step (fun n => by rw [au.l0]) ?_
    exact Ev.neg (by omega) next
  | succ d ih =>
    intro k hk
    have w := jN (i := k) (n := 100) (by omega) (by omega)
    refine Ev.step (fun n => by rw [au.l0]) ?_
    refine Ev.pos (by omega) ?_
    have h := GQ hp c f g s ng ns lg ls (k := k) (by omega) _ (hT k (by omega)) (by
      refine Ev.step (fun n => by rw [au.j3]) ?_
      rw [fI, w]
      by_cases h : k < f.length
      · exact Ev.pos (by omega) (Ev.pos (by omega) (Ev.pos rfl (ih (k + 1) (by omega))))
      · exact Ev.neg (by omega) (Ev.pos (oQ (by omega)) (ih (k + 1) (by omega)))) (k + 1) 0 (by omega)
    rw [sumTo, Int.zero_emod] at h
    exact h
theorem FnSeriesOfQuotients : au.Pure := by
  intro c _ _ hw
  have hb : ∀ x ∈ c, 0 ≤ x ∧ x < 256 := fun x hx => by
    have h := hw x hx
    have h2 : IntKind.u8.min ≤ x ∧ x ≤ IntKind.u8.max := by simpa [Lit.wf] using h
    have h3 : (0 : Int) ≤ x := h2.1
    have h4 : x ≤ 255 := h2.2
    omega
  have main : Ev (fun k => au.f k c) true := by
    unfold au.f
    by_cases hl : c.length ≤ 4096
    case neg => exact Ev.gY (a := true) (by unfold kv.f; rw [decide_eq_true (by omega)]) (Ev.pos rfl (Ev.now _))
    refine Ev.gY (a := false) (by unfold kv.f; rw [decide_eq_false (by omega)]) (Ev.neg (by decide) ?_)
    obtain ⟨⟨p, f, g, n⟩, d1, s1, s1'⟩ := zC hb hl
    obtain ⟨⟨q, a, b⟩, d2, s2, s2'⟩ := zD hb hl
    obtain ⟨⟨r, l⟩, d3, s3⟩ := zF hb hl
    obtain ⟨⟨s, e, x, y⟩, d4, s4⟩ := zG hb hl
    obtain ⟨⟨t, ls⟩, d5, s5, s5'⟩ := yF hb hl
    obtain ⟨⟨u, v, w⟩, d6, s6, s6'⟩ := BQ hb hl
    dsimp only at s1 s1' s2 s2' s3 s4 s5 s5' s6 s6'
    have eleven : Ev (fun k => au.j11 k c) true := by
      have C := DX t ls
      have M : Sm (msV u v w).1.length := by
        unfold msV
        split
        · rw [rT, mU]; exact s6
        · exact Sm0
      refine Ev.step (fun k => by rw [au.j11]) ?_
      exact Ev.bind d5 (Ev.bind (mX t ls s5 s5') (Ev.bind (qx t ls s5 s5') (Ev.bind d6 (Ev.bind (mG u v w s6 s6') (Ev.bind (pV u v w s6 s6') (Ev.pos rfl (Ev.bind (vV _ C.1.1 C.1.2) (Ev.pos rfl (Ev.bind (vV _ C.2.1 C.2.2) (Ev.pos rfl (Ev.pos rfl (Ev.bind (ow _ M) (Ev.now _)))))))))))))
    have nine : Ev (fun k => au.j9 k c) true := by
      have P : Sm (tF s e x y).1.length ∧ Sm (tF s e x y).2.1.length ∧ ((tF s e x y).2.2 = 0 → wrap64 (wrap64 (x + y) + 1) = (e.length : Int) ∧ uX s (tF s e x y).1 (tF s e x y).2.1 (e.length : Int) = (e, 0)) := by
        unfold tF
        split
        · rename_i h
          obtain ⟨hq, h1, h2, h3⟩ := h
          unfold tC
          split
          · exact ⟨Sm0, Sm0, fun k => absurd k (by decide)⟩
          · rename_i h0
            have A := BB hq h3 (a := x.toNat) (by omega) (by omega) h0
            have l1 := (fM.pl A.1).2.2
            have l2 := (fM.pl A.2.1).2.2
            refine ⟨by dsimp only; unfold Sm; omega, by dsimp only; unfold Sm; omega, fun _ => ⟨?_, A.2.2⟩⟩
            rw [bT (x := x + y) (by omega) (by omega), bT (by omega) (by omega)]
            omega
        · exact ⟨Sm0, Sm0, fun k => absurd k (by decide)⟩
      refine Ev.step (fun k => by rw [au.j9]) ?_
      refine Ev.bind d4 (Ev.bind (wD s e x y s4) (Ev.bind (wE s e x y s4) (Ev.pos rfl (Ev.bind (ow _ P.1) (Ev.pos rfl (Ev.bind (ow _ P.2.1) ?_))))))
      refine Ev.step (fun k => by rw [au.j10]) (Ev.neg (by decide) ?_)
      by_cases h0 : (tF s e x y).2.2 = 0
      · obtain ⟨w1, w2⟩ := P.2.2 h0
        refine Ev.pos h0 ?_
        rw [w1]
        have S := pR s (tF s e x y).1 (tF s e x y).2.1 (e.length : Int) P.1 P.2.1
        rw [w2] at S
        exact Ev.bind S (Ev.pos rfl (Ev.bind (ow e s4) (Ev.pos rfl eleven)))
      · exact Ev.neg h0 eleven
    have seven : Ev (fun k => au.j7 k c) true := by
      have I : Sm (invV r l).1.length := by
        unfold invV
        split
        · split
          · exact Sm0
          · rw [jY]; exact s3
        · exact Sm0
      refine Ev.step (fun k => by rw [au.j7]) ?_
      refine Ev.bind d3 (Ev.bind (pX r l s3) (Ev.bind (pY r l s3) (Ev.pos rfl (Ev.bind (ow _ I) ?_))))
      refine Ev.step (fun k => by rw [au.j8]) (Ev.neg (by decide) ?_)
      by_cases h0 : (invV r l).2 = 0
      · refine Ev.pos h0 ?_
        have h1 := h0
        unfold invV at h1 ⊢
        split at h1
        case isFalse => exact absurd h1 (by decide)
        rename_i c1
        rw [if_pos c1]
        split at h1
        · exact absurd h1 (by decide)
        rename_i c2
        rw [if_neg c2]
        dsimp only
        obtain ⟨hq, h2, h3⟩ := jH.all c1
        have hp := bK.pm hq
        have ln := jY r [1] l (iR r (l.getD 0 0)) l.length
        have g1 : jH r l 0 = true := by
          simp only [jH, Bool.and_eq_true, decide_eq_true_eq]
          exact ⟨hq, ⟨by omega, h2.2⟩, h3⟩
        have g2 : jH r (jv r [1] l (iR r (l.getD 0 0)) l.length) 0 = true := by
          simp only [jH, Bool.and_eq_true, decide_eq_true_eq]
          exact ⟨hq, ⟨by omega, by omega⟩, rW hp.pos _ _ _ _⟩
        have M := mG r l (jv r [1] l (iR r (l.getD 0 0)) l.length) s3 (by rw [ln]; exact s3)
        have e1 : msV r l (jv r [1] l (iR r (l.getD 0 0)) l.length) = (rT r l (jv r [1] l (iR r (l.getD 0 0)) l.length), 0) := by
          unfold msV
          rw [g1, g2, decide_eq_true ln.symm]
          rfl
        rw [e1] at M
        have lm : (rT r l (jv r [1] l (iR r (l.getD 0 0)) l.length)).length = l.length := by rw [rT, mU]
        have hm : ∀ j, j < l.length → (rT r l (jv r [1] l (iR r (l.getD 0 0)) l.length)).getD j 0 = if j = 0 then 1 else 0 := fun j hj => EH hq h3 c2 hj
        refine Ev.bind M (Ev.pos rfl ?_)
        dsimp only
        rw [show rd (rT r l (jv r [1] l (iR r (l.getD 0 0)) l.length)) 0 = (rT r l (jv r [1] l (iR r (l.getD 0 0)) l.length)).getD 0 0 from fI _ 0, hm 0 (by omega), lm]
        exact Ev.pos rfl (Ev.pos (by omega) (Ev.pos rfl (Ev.bind (Gz _ (by rw [lm]; omega) (fun j hj => hm j (by rw [← lm]; exact hj)) (by rw [lm]; omega)) (Ev.pos rfl nine))))
      · exact Ev.neg h0 nine
    have four : Ev (fun k => au.j4 k c) true := by
      have Q := Fs q a b
      have no : Ev (fun k => au.j6 k c q a b (lJ q a b).1 false) true := Ev.step (fun k => by rw [au.j6]) (Ev.neg (by decide) seven)
      refine Ev.step (fun k => by rw [au.j4]) ?_
      refine Ev.bind d2 (Ev.bind (qW q a b s2 s2') (Ev.bind (qX q a b s2 s2') (Ev.pos rfl (Ev.bind (vV _ Q.1 Q.2) ?_))))
      refine Ev.step (fun k => by rw [au.j5]) (Ev.neg (by decide) ?_)
      by_cases h0 : (lJ q a b).2 = 0
      case neg => exact Ev.neg h0 no
      refine Ev.pos h0 ?_
      by_cases h24 : ((lJ q a b).1.length : Int) ≤ 24
      case neg => rw [decide_eq_false h24]; exact no
      rw [decide_eq_true h24]
      refine Ev.step (fun k => by rw [au.j6]) (Ev.pos rfl (Ev.bind (mX q _ Q.1 Q.2) ?_))
      by_cases h1 : (jR q (lJ q a b).1).2.2 = 0
      case neg => exact Ev.neg h1 seven
      refine Ev.pos h1 ?_
      obtain ⟨l1, l2, l3, l4, l5, l6, same⟩ := Cm h0 h1
      rw [vI (i := (jR q (lJ q a b).1).1.length) l1 (by omega), vI (i := (jR q (lJ q a b).1).2.1.length) l2 (by omega), ou, ou]
      refine Ev.pos (by omega) (Ev.pos (by omega) (Ev.bind (mY q _ b (by unfold Sm; omega) s2') (Ev.pos (by omega) (Ev.pos (by omega) (Ev.bind (mY q _ a (by unfold Sm; omega) s2) ?_)))))
      by_cases h2 : (zJ q ((jR q (lJ q a b).1).1.getD ((jR q (lJ q a b).1).1.length - 1) []) b).2 = 0
      case neg => exact Ev.neg h2 seven
      refine Ev.pos h2 ?_
      by_cases h3 : (zJ q ((jR q (lJ q a b).1).2.1.getD ((jR q (lJ q a b).1).2.1.length - 1) []) a).2 = 0
      case neg => exact Ev.neg h3 seven
      refine Ev.pos h3 ?_
      have val : ∀ {z z' : List Int}, (zJ q z z').2 = 0 → (zJ q z z').1 = kI q z z' ∧ (kI q z z').length ≤ 25 := by
        intro z z' h
        unfold zJ at h ⊢
        split at h
        case isFalse => exact absurd h (by decide)
        rename_i c1
        rw [if_pos c1]
        split at h
        case isFalse => exact absurd h (by decide)
        rename_i c2
        rw [if_pos c2]
        split at h
        · exact absurd h (by decide)
        rename_i c3
        rw [if_neg c3]
        exact ⟨rfl, by omega⟩
      rw [(val h2).1, (val h3).1, same]
      exact Ev.bind (ow _ (by have := (val h3).2; unfold Sm; omega)) (Ev.pos rfl seven)
    have S : Sm (uX p f g n).1.length := by
      unfold uX
      split
      · split
        · rename_i h
          simp only [Bool.and_eq_true, decide_eq_true_eq] at h
          split
          · exact Sm0
          · rw [jY]; unfold Sm; omega
        · exact Sm0
      · exact Sm0
    refine Ev.bind d1 (Ev.bind (pR p f g n s1 s1') (Ev.bind (uy p f g n s1 s1') (Ev.pos rfl (Ev.bind (ow _ S) ?_))))
    refine Ev.step (fun k => by rw [au.j0]) (Ev.neg (by decide) ?_)
    by_cases h0 : (uX p f g n).2 = 0
    case neg => exact Ev.neg h0 four
    refine Ev.pos h0 ?_
    have h1 := h0
    unfold uX at h1 ⊢
    split at h1
    case isFalse => exact absurd h1 (by decide)
    rename_i c1
    rw [if_pos c1]
    split at h1
    case isFalse => exact absurd h1 (by decide)
    rename_i c2
    rw [if_pos c2]
    split at h1
    · exact absurd h1 (by decide)
    rename_i c3
    rw [if_neg c3]
    dsimp only
    simp only [Bool.and_eq_true, decide_eq_true_eq] at c1 c2
    have hp := bK.pm c2.1
    have pf := fM.pl c1.1
    have pg := fM.pl c1.2
    have ln := jY p f g (iR p (g.getD 0 0)) n.toNat
    exact GR hp c f g _ pg.1 (rW hp.pos _ _ _ _) pg.2.2 (by rw [ln]; omega) (fun k hk => Ao c2.1 pf.1 pg.1 c3 (by rw [ln] at hk; exact hk)) four (jv p f g (iR p (g.getD 0 0)) n.toNat).length 0 (by omega)
  exact main.rounds
end Go.Proofs.Ytknppcledhnkoaa.Pure
namespace Go.Proofs.Ytknppcledhnkoaa.fnSeriesOfQuotients
open Go.ChangeShapes Go.WideShapes Go.ChangeAt Go.RowKit
open Go.ChangeMaps (open_string shut_string)
set_option linter.unusedVariables false
theorem own : ownKnob Try.prog.godebug = none := by kernel_rfl
theorem laidOut : laidOutB Try.prog = true := by kernel_rfl
def Iw (k : IntKind) (w : World) (a : Option Addr) (len cap : Nat) (zs : List Int) : Prop :=
  (a = none ∧ len = 0 ∧ cap = 0 ∧ zs = []) ∨
  ∃ x, a = some x ∧ len ≤ cap ∧ cap ≤ maxLen ∧ zs.length = cap ∧ (∀ i, i < zs.length → w.cell? (x.add i) = some (.int k (zs.getD i 0))) ∧ ∀ n ∈ zs, (Lit.int k n).wf = true
set_option maxRecDepth 100000 in
theorem lifted (os : Os) (started : os.Started) (H : Type) (enc : TypeId × Value → H) :
    ReturnsInHanded {} Try.checked os 3 .any (Rows.fnSeriesOfQuotientsSpec.pre6 enc Try.prog Try.f3 Rows.fnSeriesOfQuotientsRow.domain false) (Rows.fnSeriesOfQuotientsSpec.post enc Try.prog Try.f3 false true false false) := by
  refine returnsInHanded_of_change_sized (C := Try.checked) own started (by kernel_rfl) Try.func3
    (ChangeSpec.witness6 (enc := enc) (C := Try.checked) false ⟨#[], #[.slice none 0 0], []⟩ 8 (by kernel_rfl) (by kernel_rfl) (by kernel_rfl) (by kernel_rfl)) ?_
  intro W base args ds gs before hval0 hW hcnd hsz0 _
  have hsz : (DataW.weightsEach Try.prog (Try.f3.params.toList ++ Rows.fnSeriesOfQuotientsSpec.plain.varTypes Try.prog) (ds ++ gs)).all (· ≤ reachBytes) = true := hsz0
  have hval : ∀ (j : Nat) t v, Try.f3.params[j]? = some t → args[j]? = some v → Value.okWide Try.prog W .any base t v := hval0
  have hW' := hW
  obtain ⟨p, q, hA0, hV, rfl, hfz, hnd⟩ := hW
  have hA : DataW.TrodAll enc Try.prog W 0 (fun _ => true) true Try.f3.params.toList args.toList ds p := hA0
  rw [Try.params3] at hA hval hsz
  obtain ⟨v0, vs0, d0, ds0, p0, q0, hargs, rfl, rfl, h0, r0⟩ := trodAll_cons hA
  obtain ⟨rfl, rfl, rfl⟩ := trodAll_nil r0
  obtain rfl : args = #[v0] := by cases args; simp_all
  obtain ⟨rfl, rfl⟩ := trodVars_none hV
  obtain ⟨a0, GU, cap0, rfl⟩ := okWide_slice Try.underlying22 (hval 0 22 v0 rfl rfl)
  have k0 := h0
  have lt0 : ∀ x ∈ p0, x.block < W.heap.size := by obtain ⟨m, hm⟩ := k0; exact DataW.trod_lt m _ _ _ hm
  obtain ⟨z0, w0⟩ : ∃ zs, Iw .u8 W a0 GU cap0 zs := by
    obtain ⟨fuel, hf⟩ := h0
    rcases open_ints Try.underlying22 Try.underlying5 (by kernel_rfl) hf with ⟨hcs, _⟩ | ⟨x, l, c, zs, hcs, _, hl, hm, hz, _, hcell, hwz⟩
    · simp [Value.cells] at hcs
      obtain ⟨rfl, rfl, rfl⟩ := hcs
      exact ⟨[], .inl ⟨rfl, rfl, rfl, rfl⟩⟩
    · simp [Value.cells] at hcs
      obtain ⟨rfl, rfl, rfl⟩ := hcs
      exact ⟨zs, .inr ⟨_, rfl, hl, hm, by simpa using hz, hcell, hwz⟩⟩
  have y0 : GU * 1 ≤ 140737488351232 := Go.Proofs.YtknppcledhnkoaaW.PrintWords.zL hsz (j := 0) (t := 22) rfl rfl Try.underlying22 Try.underlying5 (by kernel_rfl) (by kernel_rfl) h0
  clear hA0 hval0 hsz0 hsz
  refine (Pr.au.walk Pure.FnSeriesOfQuotients a0 GU cap0 z0 W w0 y0).mono fun e W' ⟨he, bel⟩ => ?_
  subst he
  exact ⟨_, rfl, _, _, _, [], _, [], hW', trodAll_mk1 (shut_bool Try.underlying4 _), (trodAll_cons_mk (Below.trod laidOut (by kernel_rfl) (of_decide_eq_true (by kernel_rfl)) k0 bel lt0) trodAll_mk0), rfl, bel.frame _, fun h => by cases h⟩
theorem over : Rows.fnSeriesOfQuotientsRow.holds Try.pinned (OpenSpec.ofChange Rows.fnSeriesOfQuotientsSpec) :=
  OpenClaim.holds_of_wide 3 Try.f3 rfl rfl rfl rfl rfl rfl rfl ⟨rfl, rfl, rfl, rfl, rfl⟩ rfl rfl rfl rfl rfl (by kernel_rfl) Try.func3 (by kernel_rfl)
    (of_decide_eq_true (by kernel_rfl)) (by unfold Func.isWrapper; first | (rw [if_pos (by decide +kernel)]; kernel_rfl) | (rw [if_neg (by decide +kernel)]; exact ⟨rfl, rfl⟩))
    (fun os started H enc _ => lifted os started H enc)
theorem proved : Rows.FnSeriesOfQuotientsSaid := over
#print axioms proved
end Go.Proofs.Ytknppcledhnkoaa.fnSeriesOfQuotients
namespace Go.Proofs.Ytknppcledhnkoaa
/-- The row, under a short name, for the claim. -/
theorem fnSeriesOfQuotients_holds : Rows.FnSeriesOfQuotientsSaid := fnSeriesOfQuotients.proved
end Go.Proofs.Ytknppcledhnkoaa
