/- Texts of this session in one: what functions of the program compute, and plain facts of it, under the conditions that each theorem names. -/
import Derived.Below
import Derived.ChangeOld
import Derived.OpenShut
import Derived.ProofKit
import Derived.ShutString
import Derived.SizedLaws
import Derived.Test.YtilbjbahmilhkaaRows
import Derived.WalkKit
import Derived.Test.YtilbjbahmilhkaaKFlawsFnMomentChanges
import Derived.Test.YtilbjbahmilhkaaKtChanges10
import Derived.Test.YtilbjbahmilhkaaKtChanges11
import Derived.Test.YtilbjbahmilhkaaKtChanges7
import Derived.Test.YtilbjbahmilhkaaKWSized
import Derived.Test.YtilbjbahmilhkaaKXDrawM
namespace Go.Proofs.Ytilbjbahmilhkaa.Pure
/- FnMomentChanges: for every input the law answers true. No condition. -/
open Go Go.RowKit Go.Proofs.Ytilbjbahmilhkaa.Pr Go.Proofs.YtilbjbahmilhkaaW.PrintWords Go.Proofs.YtilbjbahmilhkaaW.PrintLast
theorem Xy {p : Int} (hp : 0 < p) (n d : Nat) : ∀ (c : Nat) (M : Nat → List Int) (o : Int), 0 ≤ o ∧ o < p → 0 ≤ ry p n d c M o ∧ ry p n d c M o < p := by
  induction d with
  | zero => intro c M o ho; exact ho
  | succ d ih =>
    intro c M o ho
    rw [ry]
    split
    · exact ⟨Int.le_refl _, hp⟩
    · exact ih _ _ _ (nI hp _)
theorem M0 {p : Int} (hp : Pm p) (l : List Int) (n : Nat) : 0 ≤ vL p l n ∧ vL p l n < p := Xy hp.pos _ _ _ _ _ (by have := hp.two; omega)
theorem Xz (p b z : Int) : (z * b + (p - b * z % p) % p) % p = 0 := by
  rw [Int.add_emod_emod, ← Int.add_sub_assoc, Int.sub_emod, Int.emod_emod_of_dvd _ (Int.dvd_refl p), ← Int.sub_emod]
  rw [show z * b + p - b * z = p by rw [Int.mul_comm]; omega]
  simp
theorem Sd {p : Int} (hq : fV p = true) {l : List Int} (nl : Nm p l) {a b : Int} (ha : 1 ≤ a ∧ a < p) {n : Nat} (hn : 2 * n ≤ l.length + 1) :
    (vL p l n = 0 ↔ vL p (qJ p l [b, a] l.length) n = 0) ∧ (a = 1 → vL p l n = vL p (qJ p l [b, a] l.length) n) := by
  have hp := fV.pm hq
  haveI := nez hp
  obtain ⟨g, ⟨z, hz⟩, g1, e⟩ := SV hq nl (a := a) (b := b) ha hn
  have i1 := M0 hp l n
  have i2 := M0 hp (qJ p l [b, a] l.length) n
  refine ⟨⟨fun h => ?_, fun h => ?_⟩, fun h => ?_⟩
  · refine yN hp i2 ?_
    rw [e, h, qI]
    grind
  · refine yN hp i1 ?_
    rw [h, qI] at e
    grind
  · refine SH hp i1 i2 ?_
    rw [e, g1 h]
    grind
theorem aaC {q : Int} (hq : Pm q) (m n : List Int) (nm : Nm q m) (nn : Nm q n) (he : m.length = n.length) (hs : Sm m.length) {t : Int} (ht : 0 ≤ t ∧ t < q)
    {a b : Int} {p : Int} {l : List Int} {u : Int} {v : List Int}
    {x : Int} (next : Ev (fun k => ae.j3 k a b x p l u v) true) (d : Nat) :
    ∀ i : Nat, i + d = m.length → Ev (fun k => ae.l0 k a b x t (i : Int) p l u v q m q n q (zm q m n t m.length)) true := by
  induction d with
  | zero =>
    intro i hi
    refine Ev.step (fun k => by rw [ae.l0]) ?_
    refine Ev.neg (by rw [nC]; omega) ?_
    exact next
  | succ d ih =>
    intro i hi
    unfold Sm at hs
    have h1 := nm.get (i := i) (by omega)
    have h2 := nn.get (i := i) (by omega)
    have h3 := Bj hq ht.1 ht.2 h2.1 h2.2
    have h4 := hq.top
    refine Ev.step (fun k => by rw [ae.l0]) ?_
    refine Ev.pos (by rw [nC]; omega) (Ev.pos (by omega) (Ev.pos (by omega) (Ev.pos (by omega) (Ev.neg hq.ne (Ev.pos ?_ ?_)))))
    · rw [ma, ma, ma, dQ (x := t * n.getD i 0) (by omega) (by omega), dQ (by omega) (by omega), j6 (by omega)]
      rw [zm, List.getD_eq_getElem?_getD (l := List.map _ _), List.getElem?_map, List.getElem?_range (by omega)]
      rfl
    · rw [lW (i := i) (n := m.length) (by omega) (by omega)]
      exact ih (i + 1) (by omega)
theorem FnMomentChanges : ae.Pure := by
  intro c _ _ hw
  have hb : ∀ x ∈ c, 0 ≤ x ∧ x < 256 := fun x hx => by
    have h := hw x hx
    have h2 : IntKind.u8.min ≤ x ∧ x ≤ IntKind.u8.max := by simpa [Lit.wf] using h
    have h3 : (0 : Int) ≤ x := h2.1
    have h4 : x ≤ 255 := h2.2
    omega
  have main : Ev (fun k => ae.f k c) true := by
    unfold ae.f
    by_cases hl : c.length ≤ 4096
    case neg => exact Ev.kQ (a := true) (by unfold rH.f; rw [decide_eq_true (by omega)]) (Ev.pos rfl (Ev.now _))
    refine Ev.kQ (a := false) (by unfold rH.f; rw [decide_eq_false (by omega)]) (Ev.neg (by decide) ?_)
    obtain ⟨⟨p, l, a, b⟩, d1, s1⟩ := NW hb hl
    obtain ⟨⟨q, m, r, n, t⟩, d2, s2, s2'⟩ := NY hb hl
    dsimp only at s1 s2 s2'
    obtain ⟨v, ve, vi, vl, vy, vn⟩ := wE p l a b s1
    obtain ⟨w, we, wi, wl, wy⟩ := He q m r n t s2 s2'
    have three : Ev (fun k => ae.j3 k a b v.2.2 p l v.1 v.2.1) true := by
      refine Ev.step (fun k => by rw [ae.j3]) ?_
      by_cases hc : lK p l = true ∧ (0 ≤ a ∧ a < p) ∧ (0 ≤ b ∧ b < p)
      · have hv := vy hc
        have h0 : v.2.2 = 0 := by rw [hv]
        refine Ev.pos h0 ?_
        refine Ev.step (fun k => by rw [ae.j4]) ?_
        by_cases ha : a = 0
        · exact Ev.pos (by rw [ha]; rfl) (Ev.pos h0 (Ev.now _))
        · obtain ⟨hm, ia, ib⟩ := hc
          have hq := lK.Gd hm
          have hp := lK.pm hm
          have hp2 := hp.two
          have hpt := hp.top
          have hlen := lK.len hm
          have nl := lK.nm hm
          have ia' : 1 ≤ a ∧ a < p := by omega
          rw [show ny [b, a] = [b, a] from uS [b] ha] at hv
          have iz := JU hp a
          have mz := Lb hq ia'
          generalize hzz : vM p a = z at iz mz
          have z0 : z ≠ 0 := by
            rintro rfl
            simp at mz
          have hm2 : lK p (qJ p l [b, a] l.length) = true := by
            simp only [lK, Bool.and_eq_true, decide_eq_true_eq, rz]
            exact ⟨hq, hlen, Nc hp _ _ _⟩
          have mb := Bj hp ib.1 ib.2 iz.1 iz.2
          have eb := nI hp.pos (b * z)
          have hb' : Int.tmod (wrap64 (p - Int.tmod (wrap64 (b * z)) p)) p = (p - b * z % p) % p := by
            rw [dQ (x := b * z) (by omega) (by omega), show Int.tmod (b * z) p = b * z % p from j6 mb.1, dQ (by omega) (by omega), j6 (by omega)]
          have eb' := nI hp.pos (p - b * z % p)
          obtain ⟨y, _, yi, yl, yy, _⟩ := wE p (qJ p l [b, a] l.length) z ((p - b * z % p) % p) (by rw [rz]; exact s1)
          have hy := yy ⟨hm2, iz, eb'⟩
          rw [show ny [(p - b * z % p) % p, z] = [(p - b * z % p) % p, z] from uS [_] z0, rz, SX hq nl (by rw [Int.mul_comm]; exact mz) (Xz p b z)] at hy
          refine Ev.neg (by simp [ha]) ?_
          have hi := Jr hq ia'
          rw [hzz] at hi
          refine Ev.bind hi (Ev.pos rfl (Ev.neg hp.ne ?_))
          dsimp only
          rw [hb', hv]
          dsimp only
          refine Ev.bind yi ?_
          rw [hy]
          refine Ev.pos rfl (Ev.bind (zl p l s1) ?_)
          refine Ev.step (fun k => by rw [ae.j5]) ?_
          refine Ev.neg (by decide) ?_
          rw [Ph s1]
          obtain ⟨k1, k2⟩ := Sd hq nl (b := b) ia' (n := (l.length + 1) / 2) (by omega)
          refine Ev.bind (Bv hm s1 (by omega)) (Ev.bind (Bv hm2 (by rw [rz]; exact s1) (by rw [rz]; omega)) (Ev.pos rfl (Ev.pos rfl (Ev.pos ?_ ?_))))
          · by_cases h : vL p l ((l.length + 1) / 2) = 0
            · simp [h, k1.1 h]
            · rw [beq_eq_false_iff_ne.2 h, beq_eq_false_iff_ne.2 (fun g => h (k1.2 g))]
              rfl
          · by_cases h : a = 1
            · exact Ev.pos h (Ev.mM (by simp [k2 h]))
            · exact Ev.neg h (Ev.now _)
      · obtain ⟨h1, h2⟩ := vn hc
        refine Ev.neg h2 ?_
        refine Ev.step (fun k => by rw [ae.j4]) ?_
        exact Ev.pos rfl (Ev.neg h2 (Ev.mM (by rw [h1]; rfl)))
    have one : Ev (fun k => ae.j1 k a b v.2.2 t w.2.2 false p l v.1 v.2.1 q m r n w.1 w.2.1) true := by
      refine Ev.step (fun k => by rw [ae.j1]) ?_
      refine Ev.neg (by decide) ?_
      by_cases h0 : w.2.2 = 0
      · obtain ⟨m1, m2, rfl, e, it, hw⟩ := wy h0
        refine Ev.pos h0 ?_
        rw [hw]
        dsimp only
        exact aaC (lK.pm m1) m n (lK.nm m1) (lK.nm m2) e s2 it three m.length 0 (by omega)
      · exact Ev.neg h0 three
    have nought : Ev (fun k => ae.j0 k c a b v.2.2 false p l v.1 v.2.1) true := by
      refine Ev.step (fun k => by rw [ae.j0]) ?_
      exact Ev.neg (by decide) (Ev.bind d2 (Ev.bind wi (Ev.bind we (Ev.pos rfl (Ev.bind (zl _ _ wl) one)))))
    exact Ev.bind d1 (Ev.bind vi (Ev.bind ve (Ev.pos rfl (Ev.bind (zl _ _ vl) nought))))
  exact main.rounds
end Go.Proofs.Ytilbjbahmilhkaa.Pure
namespace Go.Proofs.Ytilbjbahmilhkaa.fnMomentChanges
open Go.ChangeShapes Go.WideShapes Go.ChangeAt Go.RowKit
open Go.ChangeMaps (open_string shut_string)
set_option linter.unusedVariables false
theorem own : ownKnob Try.prog.godebug = none := by kernel_rfl
theorem laidOut : laidOutB Try.prog = true := by kernel_rfl
def anF (k : IntKind) (w : World) (a : Option Addr) (len cap : Nat) (zs : List Int) : Prop :=
  (a = none ∧ len = 0 ∧ cap = 0 ∧ zs = []) ∨
  ∃ x, a = some x ∧ len ≤ cap ∧ cap ≤ maxLen ∧ zs.length = cap ∧ (∀ i, i < zs.length → w.cell? (x.add i) = some (.int k (zs.getD i 0))) ∧ ∀ n ∈ zs, (Lit.int k n).wf = true
set_option maxRecDepth 100000 in
theorem lifted (os : Os) (started : os.Started) (H : Type) (enc : TypeId × Value → H) :
    ReturnsInHanded {} Try.checked os 4 .any (Rows.fnMomentChangesSpec.pre6 enc Try.prog Try.f4 Rows.fnMomentChangesRow.domain false) (Rows.fnMomentChangesSpec.post enc Try.prog Try.f4 false true false false) := by
  refine returnsInHanded_of_change_sized (C := Try.checked) own started (by kernel_rfl) Try.func4
    (ChangeSpec.witness6 (enc := enc) (C := Try.checked) false ⟨#[], #[.slice none 0 0], []⟩ 8 (by kernel_rfl) (by kernel_rfl) (by kernel_rfl) (by kernel_rfl)) ?_
  intro W base args ds gs before hval0 hW hcnd hsz0 _
  have hsz : (DataW.weightsEach Try.prog (Try.f4.params.toList ++ Rows.fnMomentChangesSpec.plain.varTypes Try.prog) (ds ++ gs)).all (· ≤ reachBytes) = true := hsz0
  have hval : ∀ (j : Nat) t v, Try.f4.params[j]? = some t → args[j]? = some v → Value.okWide Try.prog W .any base t v := hval0
  have hW' := hW
  obtain ⟨p, q, hA0, hV, rfl, hfz, hnd⟩ := hW
  have hA : DataW.TrodAll enc Try.prog W 0 (fun _ => true) true Try.f4.params.toList args.toList ds p := hA0
  rw [Try.params4] at hA hval hsz
  obtain ⟨v0, vs0, d0, ds0, p0, q0, hargs, rfl, rfl, h0, r0⟩ := trodAll_cons hA
  obtain ⟨rfl, rfl, rfl⟩ := trodAll_nil r0
  obtain rfl : args = #[v0] := by cases args; simp_all
  obtain ⟨rfl, rfl⟩ := trodVars_none hV
  obtain ⟨a0, MN, cap0, rfl⟩ := okWide_slice Try.underlying22 (hval 0 22 v0 rfl rfl)
  have k0 := h0
  have lt0 : ∀ x ∈ p0, x.block < W.heap.size := by obtain ⟨m, hm⟩ := k0; exact DataW.trod_lt m _ _ _ hm
  obtain ⟨z0, w0⟩ : ∃ zs, anF .u8 W a0 MN cap0 zs := by
    obtain ⟨fuel, hf⟩ := h0
    rcases open_ints Try.underlying22 Try.underlying5 (by kernel_rfl) hf with ⟨hcs, _⟩ | ⟨x, l, c, zs, hcs, _, hl, hm, hz, _, hcell, hwz⟩
    · simp [Value.cells] at hcs
      obtain ⟨rfl, rfl, rfl⟩ := hcs
      exact ⟨[], .inl ⟨rfl, rfl, rfl, rfl⟩⟩
    · simp [Value.cells] at hcs
      obtain ⟨rfl, rfl, rfl⟩ := hcs
      exact ⟨zs, .inr ⟨_, rfl, hl, hm, by simpa using hz, hcell, hwz⟩⟩
  have y0 : MN * 1 ≤ 140737488351232 := Go.Proofs.YtilbjbahmilhkaaW.PrintWords.NV hsz (j := 0) (t := 22) rfl rfl Try.underlying22 Try.underlying5 (by kernel_rfl) (by kernel_rfl) h0
  clear hA0 hval0 hsz0 hsz
  refine (Pr.ae.walk Pure.FnMomentChanges a0 MN cap0 z0 W w0 y0).mono fun e W' ⟨he, bel⟩ => ?_
  subst he
  exact ⟨_, rfl, _, _, _, [], _, [], hW', trodAll_mk1 (shut_bool Try.underlying4 _), (trodAll_cons_mk (Below.trod laidOut (by kernel_rfl) (of_decide_eq_true (by kernel_rfl)) k0 bel lt0) trodAll_mk0), rfl, bel.frame _, fun h => by cases h⟩
theorem over : Rows.fnMomentChangesRow.holds Try.pinned (OpenSpec.ofChange Rows.fnMomentChangesSpec) :=
  OpenClaim.holds_of_wide 4 Try.f4 rfl rfl rfl rfl rfl rfl rfl ⟨rfl, rfl, rfl, rfl, rfl⟩ rfl rfl rfl rfl rfl (by kernel_rfl) Try.func4 (by kernel_rfl)
    (of_decide_eq_true (by kernel_rfl)) (by unfold Func.isWrapper; first | (rw [if_pos (by decide +kernel)]; kernel_rfl) | (rw [if_neg (by decide +kernel)]; exact ⟨rfl, rfl⟩))
    (fun os started H enc _ => lifted os started H enc)
theorem proved : Rows.FnMomentChangesSaid := over
#print axioms proved
end Go.Proofs.Ytilbjbahmilhkaa.fnMomentChanges
namespace Go.Proofs.Ytilbjbahmilhkaa
/-- The row, under a short name, for the claim. -/
theorem fnMomentChanges_holds : Rows.FnMomentChangesSaid := fnMomentChanges.proved
end Go.Proofs.Ytilbjbahmilhkaa
