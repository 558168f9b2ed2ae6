/- Texts of this session in one: what functions of the program compute, and plain facts of it, under the conditions that each theorem names. -/
import Derived.Below
import Derived.ChangeOld
import Derived.OpenShut
import Derived.ProofKit
import Derived.ShutString
import Derived.SizedLaws
import Derived.Test.YtilbjbahmilhkaaRows
import Derived.WalkKit
import Derived.Test.YtilbjbahmilhkaaKFlawsFnOrthogonals
import Derived.Test.YtilbjbahmilhkaaKgonals14
import Derived.Test.YtilbjbahmilhkaaKgonals8
import Derived.Test.YtilbjbahmilhkaaKWSized
namespace Go.Proofs.Ytilbjbahmilhkaa.Pure
/- FnOrthogonals: for every input the law answers true. No condition. -/
open Go Go.RowKit Go.Proofs.Ytilbjbahmilhkaa.Pr Go.Proofs.YtilbjbahmilhkaaW.PrintWords Go.Proofs.YtilbjbahmilhkaaW.PrintLast
theorem Re (p : Int) (l : List Int) (a : Int) (g : List Int) (c : Int) (ns : List Int) (sn : Sm ns.length) (hn : ∀ i : Nat, i < ns.length → ns.getD i 0 ≠ 0)
    (next : Ev (fun k => if c = 0 then ((ay.f k p l g a).bind fun bt => (if (g.length : Int) = (wrap64 (a + 1)) then (if 0 ≤ a then (if a < (g.length : Int) then (if (rd g a) = 1 then (if bt.2 = 0 then (some bt.1) else (some false)) else (some false)) else (none)) else (none)) else (some false))) else (some ((g.length : Int) == 0))) true) (d : Nat) :
    ∀ i : Nat, i + d = ns.length → Ev (fun n => aC.l0 n a g c ns (i : Int) p l) true := by
  unfold Sm at sn
  induction d with
  | zero =>
    intro i hi
    refine Ev.step (fun n => by rw [aC.l0]) ?_
    exact Ev.neg (by omega) next
  | succ d ih =>
    intro i hi
    refine Ev.step (fun n => by rw [aC.l0]) ?_
    refine Ev.pos (by omega) (Ev.pos (by omega) (Ev.neg (by rw [mM]; exact hn i (by omega)) ?_))
    rw [kz (i := i) (n := ns.length) (by omega) (by omega)]
    exact ih (i + 1) (by omega)
theorem FnOrthogonals : aC.Pure := by
  intro c _ _ hw
  have hb : ∀ x ∈ c, 0 ≤ x ∧ x < 256 := fun x hx => by
    have h := hw x hx
    have h2 : IntKind.u8.min ≤ x ∧ x ≤ IntKind.u8.max := by simpa [Lit.wf] using h
    have h3 : (0 : Int) ≤ x := h2.1
    have h4 : x ≤ 255 := h2.2
    omega
  have main : Ev (fun k => aC.f k c) true := by
    unfold aC.f
    by_cases hl : c.length ≤ 4096
    case neg => exact Ev.iL (a := true) (by unfold ut.f; rw [decide_eq_true (by omega)]) (Ev.pos rfl (Ev.now _))
    refine Ev.iL (a := false) (by unfold ut.f; rw [decide_eq_false (by omega)]) (Ev.neg (by decide) ?_)
    obtain ⟨⟨p, l, a⟩, d1, s1⟩ := Wd hb hl
    obtain ⟨⟨q, m, t⟩, d2, s2⟩ := We hb hl
    obtain ⟨⟨r, n⟩, d3, s3⟩ := QY hb hl
    obtain ⟨⟨z, o, f, u⟩, d4, s4, s4'⟩ := QZ hb hl
    dsimp only at s1 s2 s3 s4 s4'
    obtain ⟨v, ve, vi, vl, vy, vn⟩ := sI p l a s1
    obtain ⟨w, we, wi, wy⟩ := QW q m t s2
    obtain ⟨x, xe, xi, xl, xy⟩ := OO r n s3
    obtain ⟨y, ye, yi⟩ := Dp z o f u s4 s4'
    have last : Ev (fun k => if v.2 = 0 then ((ay.f k p l v.1 a).bind fun bt => (if (v.1.length : Int) = (wrap64 (a + 1)) then (if 0 ≤ a then (if a < (v.1.length : Int) then (if (rd v.1 a) = 1 then (if bt.2 = 0 then (some bt.1) else (some false)) else (some false)) else (none)) else (none)) else (some false))) else (some ((v.1.length : Int) == 0))) true := by
      by_cases h0 : v.2 = 0
      · obtain ⟨hm, ia, ho, hle, hv⟩ := vy h0
        obtain ⟨k, rfl⟩ := Int.eq_ofNat_of_zero_le ia.1
        have hp := jP.pm hm
        have mo := ail hp l k
        have hpf := Wq (FO hp l k) mo (by omega)
        rw [Int.toNat_natCast] at hv
        rw [hv] at vl
        refine Ev.pos h0 ?_
        rw [hv]
        have hl1 := mo.1
        refine Ev.bind (OP hm hpf s1 vl (n := k) (by omega) (by omega) (.inr (by omega))) ?_
        rw [bM (by omega) (by omega), mM]
        exact Ev.pos (by omega) (Ev.pos (by omega) (Ev.pos (by omega) (Ev.pos mo.2 (Ev.pos rfl (Ev.mW (decide_eq_true (Wi (jP.Ck hm) (jP.nm hm) ho)))))))
      · exact Ev.neg h0 (Ev.mW (by rw [vn h0]; rfl))
    have four : Ev (fun k => aC.j4 k a v.1 v.2 x.1 x.2 p l) true := by
      refine Ev.step (fun k => by rw [aC.j4]) ?_
      by_cases h0 : x.2 = 0
      · obtain ⟨hm, i, hi, hx⟩ := xy h0
        refine Ev.pos h0 (Re p l a v.1 v.2 x.1 xl (fun j hj => ?_) last x.1.length 0 (by omega))
        rw [hx, zB] at hj
        rw [hx, pX, List.getD_eq_getElem?_getD, List.getElem?_map, List.getElem?_range hj]
        exact acs (jP.Ck hm) (jP.nm hm) (n := i) (by omega) hj
      · exact Ev.neg h0 last
    have three : Ev (fun k => aC.j3 k a v.1 v.2 t w.1 w.2 x.1 x.2 false p l q m) true := by
      refine Ev.step (fun k => by rw [aC.j3]) ?_
      refine Ev.neg (by decide) ?_
      by_cases h0 : w.2 = 0
      · obtain ⟨hm, it, ho, hle, hw⟩ := wy h0
        obtain ⟨k, rfl⟩ := Int.eq_ofNat_of_zero_le it.1
        rw [Int.toNat_natCast] at hw
        have hp := jP.pm hm
        have hq := jP.Ck hm
        have nl := jP.nm hm
        have h1 := IG hp m k
        have h2 := lQ hp.pos (x := sH q m k)
        have hlen := jP.len hm
        have hn : 0 ≤ w.1 ∧ w.1 < q := by rw [hw]; exact uz hp m _ 0
        have hmul := Cc hp h1.1 h1.2 hn.1 hn.2
        refine Ev.pos h0 (Ev.bind (D6 hm s2 (n := k) (by omega)) ?_)
        rw [kz (i := k) (n := 1000) (by omega) (by omega)]
        refine Ev.bind (D6 hm s2 (n := k + 1) (by omega)) (Ev.pos rfl (Ev.pos rfl (Ev.neg hp.ne (Ev.pos ?_ four))))
        dsimp only
        rw [bM (by omega) (by omega), lC (by omega), hw]
        exact Wh hq nl ho
      · exact Ev.neg h0 four
    have two : Ev (fun k => aC.j2 k c a v.1 v.2 t w.1 w.2 x.1 x.2 false p l q m) true := by
      refine Ev.step (fun k => by rw [aC.j2]) ?_
      refine Ev.neg (by decide) (Ev.bind d4 (Ev.bind yi (Ev.bind ye (Ev.pos rfl ?_))))
      rw [bne_self_eq_false]
      exact three
    have one : Ev (fun k => aC.j1 k c a v.1 v.2 t w.1 w.2 false p l q m) true := by
      refine Ev.step (fun k => by rw [aC.j1]) ?_
      exact Ev.neg (by decide) (Ev.bind d3 (Ev.bind xi (Ev.bind xe (Ev.pos rfl (Ev.bind (Tf _ xl) two)))))
    have nought : Ev (fun k => aC.j0 k c a v.1 v.2 false p l) true := by
      refine Ev.step (fun k => by rw [aC.j0]) ?_
      refine Ev.neg (by decide) (Ev.bind d2 (Ev.bind wi (Ev.bind we (Ev.pos rfl ?_))))
      rw [bne_self_eq_false]
      exact one
    exact Ev.bind d1 (Ev.bind vi (Ev.bind ve (Ev.pos rfl (Ev.bind (Tf _ vl) nought))))
  exact main.rounds
end Go.Proofs.Ytilbjbahmilhkaa.Pure
namespace Go.Proofs.Ytilbjbahmilhkaa.fnOrthogonals
open Go.ChangeShapes Go.WideShapes Go.ChangeAt Go.RowKit
open Go.ChangeMaps (open_string shut_string)
set_option linter.unusedVariables false
theorem own : ownKnob Try.prog.godebug = none := by kernel_rfl
theorem laidOut : laidOutB Try.prog = true := by kernel_rfl
def ao5 (k : IntKind) (w : World) (a : Option Addr) (len cap : Nat) (zs : List Int) : Prop :=
  (a = none ∧ len = 0 ∧ cap = 0 ∧ zs = []) ∨
  ∃ x, a = some x ∧ len ≤ cap ∧ cap ≤ maxLen ∧ zs.length = cap ∧ (∀ i, i < zs.length → w.cell? (x.add i) = some (.int k (zs.getD i 0))) ∧ ∀ n ∈ zs, (Lit.int k n).wf = true
set_option maxRecDepth 100000 in
theorem lifted (os : Os) (started : os.Started) (H : Type) (enc : TypeId × Value → H) :
    ReturnsInHanded {} Try.checked os 3 .any (Rows.fnOrthogonalsSpec.pre6 enc Try.prog Try.f3 Rows.fnOrthogonalsRow.domain false) (Rows.fnOrthogonalsSpec.post enc Try.prog Try.f3 false true false false) := by
  refine returnsInHanded_of_change_sized (C := Try.checked) own started (by kernel_rfl) Try.func3
    (ChangeSpec.witness6 (enc := enc) (C := Try.checked) false ⟨#[], #[.slice none 0 0], []⟩ 8 (by kernel_rfl) (by kernel_rfl) (by kernel_rfl) (by kernel_rfl)) ?_
  intro W base args ds gs before hval0 hW hcnd hsz0 _
  have hsz : (DataW.weightsEach Try.prog (Try.f3.params.toList ++ Rows.fnOrthogonalsSpec.plain.varTypes Try.prog) (ds ++ gs)).all (· ≤ reachBytes) = true := hsz0
  have hval : ∀ (j : Nat) t v, Try.f3.params[j]? = some t → args[j]? = some v → Value.okWide Try.prog W .any base t v := hval0
  have hW' := hW
  obtain ⟨p, q, hA0, hV, rfl, hfz, hnd⟩ := hW
  have hA : DataW.TrodAll enc Try.prog W 0 (fun _ => true) true Try.f3.params.toList args.toList ds p := hA0
  rw [Try.params3] at hA hval hsz
  obtain ⟨v0, vs0, d0, ds0, p0, q0, hargs, rfl, rfl, h0, r0⟩ := trodAll_cons hA
  obtain ⟨rfl, rfl, rfl⟩ := trodAll_nil r0
  obtain rfl : args = #[v0] := by cases args; simp_all
  obtain ⟨rfl, rfl⟩ := trodVars_none hV
  obtain ⟨a0, O5, cap0, rfl⟩ := okWide_slice Try.underlying22 (hval 0 22 v0 rfl rfl)
  have k0 := h0
  have lt0 : ∀ x ∈ p0, x.block < W.heap.size := by obtain ⟨m, hm⟩ := k0; exact DataW.trod_lt m _ _ _ hm
  obtain ⟨z0, w0⟩ : ∃ zs, ao5 .u8 W a0 O5 cap0 zs := by
    obtain ⟨fuel, hf⟩ := h0
    rcases open_ints Try.underlying22 Try.underlying5 (by kernel_rfl) hf with ⟨hcs, _⟩ | ⟨x, l, c, zs, hcs, _, hl, hm, hz, _, hcell, hwz⟩
    · simp [Value.cells] at hcs
      obtain ⟨rfl, rfl, rfl⟩ := hcs
      exact ⟨[], .inl ⟨rfl, rfl, rfl, rfl⟩⟩
    · simp [Value.cells] at hcs
      obtain ⟨rfl, rfl, rfl⟩ := hcs
      exact ⟨zs, .inr ⟨_, rfl, hl, hm, by simpa using hz, hcell, hwz⟩⟩
  have y0 : O5 * 1 ≤ 140737488351232 := Go.Proofs.YtilbjbahmilhkaaW.PrintWords.Qn hsz (j := 0) (t := 22) rfl rfl Try.underlying22 Try.underlying5 (by kernel_rfl) (by kernel_rfl) h0
  clear hA0 hval0 hsz0 hsz
  refine (Pr.aC.walk Pure.FnOrthogonals a0 O5 cap0 z0 W w0 y0).mono fun e W' ⟨he, bel⟩ => ?_
  subst he
  exact ⟨_, rfl, _, _, _, [], _, [], hW', trodAll_mk1 (shut_bool Try.underlying4 _), (trodAll_cons_mk (Below.trod laidOut (by kernel_rfl) (of_decide_eq_true (by kernel_rfl)) k0 bel lt0) trodAll_mk0), rfl, bel.frame _, fun h => by cases h⟩
theorem over : Rows.fnOrthogonalsRow.holds Try.pinned (OpenSpec.ofChange Rows.fnOrthogonalsSpec) :=
  OpenClaim.holds_of_wide 3 Try.f3 rfl rfl rfl rfl rfl rfl rfl ⟨rfl, rfl, rfl, rfl, rfl⟩ rfl rfl rfl rfl rfl (by kernel_rfl) Try.func3 (by kernel_rfl)
    (of_decide_eq_true (by kernel_rfl)) (by unfold Func.isWrapper; first | (rw [if_pos (by decide +kernel)]; kernel_rfl) | (rw [if_neg (by decide +kernel)]; exact ⟨rfl, rfl⟩))
    (fun os started H enc _ => lifted os started H enc)
theorem proved : Rows.FnOrthogonalsSaid := over
#print axioms proved
end Go.Proofs.Ytilbjbahmilhkaa.fnOrthogonals
namespace Go.Proofs.Ytilbjbahmilhkaa
/-- The row, under a short name, for the claim. -/
theorem fnOrthogonals_holds : Rows.FnOrthogonalsSaid := fnOrthogonals.proved
end Go.Proofs.Ytilbjbahmilhkaa
