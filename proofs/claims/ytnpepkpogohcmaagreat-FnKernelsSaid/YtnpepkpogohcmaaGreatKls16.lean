/- Texts of this session in one: what functions of the program compute, and plain facts of it, under the conditions that each theorem names. -/
import Derived.Below
import Derived.ChangeOld
import Derived.OpenShut
import Derived.ProofKit
import Derived.ShutString
import Derived.SizedLaws
import Derived.Test.YtnpepkpogohcmaaGreatRows
import Derived.WalkKit
import Derived.Test.YtnpepkpogohcmaaGreatKFlawsFnKernels
import Derived.Test.YtnpepkpogohcmaaGreatKls11
import Derived.Test.YtnpepkpogohcmaaGreatKls12
import Derived.Test.YtnpepkpogohcmaaGreatKls14
import Derived.Test.YtnpepkpogohcmaaGreatKls15
import Derived.Test.YtnpepkpogohcmaaGreatKls5
import Derived.Test.YtnpepkpogohcmaaGreatKWSized
namespace Go.Proofs.YtnpepkpogohcmaaGreat.Pure
/- FnKernels: for every input the law answers true. No condition. -/
open Go Go.RowKit Go.Proofs.YtnpepkpogohcmaaGreat.Pr Go.Proofs.YtnpepkpogohcmaaGreatW.PrintWords Go.Proofs.YtnpepkpogohcmaaGreatW.PrintLast
/-- What the law compares at last. -/
theorem Mc {p a b s h u v x y : Int} (hp : Pm p) (ha : 0 ≤ a ∧ a < p) (hb : 0 ≤ b ∧ b < p) (hs : 0 ≤ s ∧ s < p) (hh : 0 ≤ h ∧ h < p) (hu : 0 ≤ u ∧ u < p) (hv : 0 ≤ v ∧ v < p) (hx : 0 ≤ x ∧ x < p) (hy : 0 ≤ y ∧ y < p)
    (e : ((a - b + p) % p * s % p * h) % p = (u * v + (p - x) * y) % p) :
    (Int.tmod (wrap64 ((Int.tmod (wrap64 ((Int.tmod (wrap64 ((wrap64 (a - b)) + p)) p) * s)) p) * h)) p == Int.tmod (wrap64 ((wrap64 (u * v)) + (wrap64 ((wrap64 (p - x)) * y)))) p) = true := by
  have ht := hp.top
  have h2 := hp.two
  have m0 := lv hp.pos (a - b + p)
  have m1 := yO hp m0.1 m0.2 hs.1 hs.2
  have m2 := lv hp.pos ((a - b + p) % p * s)
  have m3 := yO hp m2.1 m2.2 hh.1 hh.2
  have m4 := yO hp hu.1 hu.2 hv.1 hv.2
  have m5 := Yj (a := p - x) (b := y) (m := 10007) (n := 10007) (by omega) (by omega) hy.1 (by omega)
  have e1 : Int.tmod (wrap64 ((Int.tmod (wrap64 ((Int.tmod (wrap64 ((wrap64 (a - b)) + p)) p) * s)) p) * h)) p = ((a - b + p) % p * s % p * h) % p := by
    rw [bJ (x := a - b) (by omega) (by omega), bJ (x := a - b + p) (by omega) (by omega), jY (a := a - b + p) (by omega), bJ (x := (a - b + p) % p * s) (by omega) (by omega), jY (a := (a - b + p) % p * s) (by omega), bJ (by omega) (by omega), jY (by omega)]
  have e2 : Int.tmod (wrap64 ((wrap64 (u * v)) + (wrap64 ((wrap64 (p - x)) * y)))) p = (u * v + (p - x) * y) % p := by
    rw [bJ (x := u * v) (by omega) (by omega), bJ (x := p - x) (by omega) (by omega), bJ (x := (p - x) * y) (by omega) (by omega), bJ (by omega) (by omega), jY (by omega)]
  rw [e1, e2, e]
  simp
theorem FnKernels : aK.Pure := by
  intro c _ _ hw
  have hb : ∀ x ∈ c, 0 ≤ x ∧ x < 256 := fun x hx => by
    have h := hw x hx
    have h2 : IntKind.u8.min ≤ x ∧ x ≤ IntKind.u8.max := by simpa [Lit.wf] using h
    have h3 : (0 : Int) ≤ x := h2.1
    have h4 : x ≤ 255 := h2.2
    omega
  have main : Ev (fun k => aK.f k c) true := by
    unfold aK.f
    by_cases hl : c.length ≤ 4096
    case neg => exact Ev.iN (a := true) (by unfold uA.f; rw [decide_eq_true (by omega)]) (Ev.pos rfl (Ev.now _))
    refine Ev.iN (a := false) (by unfold uA.f; rw [decide_eq_false (by omega)]) (Ev.neg (by decide) ?_)
    obtain ⟨⟨p, l, n, a, b⟩, d1, s1⟩ := Ml hb hl
    obtain ⟨⟨q, m, u, w⟩, d2, s2⟩ := Mm hb hl
    obtain ⟨⟨r, o, t, f, d⟩, d3, s3, s3'⟩ := Rm hb hl
    dsimp only at s1 s2 s3 s3'
    obtain ⟨v, ve, vi, vy, vn⟩ := Eb p l n a b s1
    obtain ⟨x, xe, xi, xl, xy⟩ := Mo q m u w s2
    obtain ⟨z, ze, zi, zy⟩ := GV r o t f d s3 s3'
    have five : kS p l = true ∧ yP p n a ∧ n + 1 ≤ vD p l ∧ (0 ≤ b ∧ b < p) → Ev (fun k => aK.j5 k n a b v.1 false p l) true := by
      intro hc
      have hv := vy hc
      obtain ⟨hm, hr, ho, hbp⟩ := hc
      have hp := kS.pm hm
      have hq := kS.Bl hm
      have nl := kS.nm hm
      have hlen := kS.len hm
      obtain ⟨k, rfl⟩ := Int.eq_ofNat_of_zero_le hr.1.1
      have hk := hr.1.2
      rw [jI] at hv
      obtain ⟨om, hm1, hm2⟩ := Bn p l
      have gi := Ec hm s1 (k := k + 1) (by omega)
      have li := Ec hm s1 (k := k) (by omega)
      rw [if_pos ⟨by omega, by omega⟩] at li
      have ni := Kz hm s1 (k := k) (by omega) (by omega)
      refine Ev.step (fun k => by rw [aK.j5]) ?_
      rw [bJ (x := (k : Int) + 1) (by omega) (by omega), show (k : Int) + 1 = ((k + 1 : Nat) : Int) from by omega]
      refine Ev.neg (by decide) (Ev.bind gi (Ev.bind li (Ev.bind ni ?_)))
      by_cases h0 : ((k + 1 : Nat) : Int) ≤ vD p l ∧ 2 * (k + 1) ≤ l.length
      · rw [if_pos h0, hv]
        have P1 := K4 (Ed hp l (k + 1)) (Yk hp l (k + 1)) (by omega)
        have P0 := K4 (Ed hp l k) (Yk hp l k) (by omega)
        have l1 := sP hp l (k + 1)
        have l0 := sP hp l k
        refine Ev.pos rfl (Ev.bind (xI hq P1 (by unfold Sm; omega) hr.2) (Ev.bind (xI hq P0 (by unfold Sm; omega) hbp) (Ev.bind (xI hq P1 (by unfold Sm; omega) hbp) (Ev.bind (xI hq P0 (by unfold Sm; omega) hr.2) ?_))))
        refine Ev.neg hp.ne (Ev.pos rfl (Ev.pos rfl (Ev.pos rfl (Ev.pos rfl (Ev.pos rfl (Ev.pos rfl (Ev.oh ?_)))))))
        exact Mc hp hr.2 hbp (vR hp _ _) (qI hp l _ 0) (vR hp _ _) (vR hp _ _) (vR hp _ _) (vR hp _ _) (acU hq nl ho)
      · rw [if_neg h0]
        exact Ev.neg (by decide) (Ev.now _)
    have four : Ev (fun k => aK.j4 k n a b v.1 v.2 false p l) true := by
      refine Ev.step (fun k => by rw [aK.j4]) ?_
      refine Ev.neg (by decide) ?_
      by_cases hc : kS p l = true ∧ yP p n a ∧ n + 1 ≤ vD p l ∧ (0 ≤ b ∧ b < p)
      · have h5 := five hc
        have hv := vy hc
        obtain ⟨hm, hr, ho, hbp⟩ := hc
        obtain ⟨y, _, yi, yy, _⟩ := Eb p l n b a s1
        have hy := yy ⟨hm, ⟨hr.1, hbp⟩, ho, hr.2⟩
        have es : xJ p b (xK p l n.toNat a) = xJ p a (xK p l n.toNat b) := by
          exact acV (kS.Bl hm)
        refine Ev.pos (by rw [hv]) (Ev.bind yi (Ev.pos (by rw [hy]) ?_))
        have : (y.1 != v.1) = false := by rw [hy, hv]; dsimp only; rw [es]; simp
        rw [this]
        exact h5
      · obtain ⟨h1, h2⟩ := vn hc
        refine Ev.neg h2 (Ev.oh ?_)
        rw [h1]; rfl
    have three : Ev (fun k => aK.j3 k n a b v.1 v.2 u x.1 x.2 p l) true := by
      refine Ev.step (fun k => by rw [aK.j3]) ?_
      by_cases h : x.2 = 0
      · obtain ⟨h1, h2, h3⟩ := xy h
        refine Ev.pos h ?_
        rw [bJ (x := u + 1) (by omega) (by omega), decide_eq_false (by omega)]
        exact four
      · exact Ev.neg h four
    have two : Ev (fun k => aK.j2 k n a b v.1 v.2 u x.1 x.2 f d z.1 z.2 false p l r o) true := by
      refine Ev.step (fun k => by rw [aK.j2]) ?_
      refine Ev.neg (by decide) ?_
      by_cases h : z.2 = 0
      · obtain ⟨hm, hf, hr, ho, hfl, hz⟩ := zy h
        refine Ev.pos h (Ev.bind (xI (kS.Bl hm) hf s3' hr.2) (Ev.pos rfl (Ev.pos ?_ three)))
        rw [hz]
        have := hr.1
        exact (acW (kS.Bl hm) (kS.nm hm) (n := t.toNat) (by omega) (by omega)).symm
      · exact Ev.neg h three
    have one : Ev (fun k => aK.j1 k c n a b v.1 v.2 u x.1 x.2 false p l) true := by
      refine Ev.step (fun k => by rw [aK.j1]) ?_
      refine Ev.neg (by decide) (Ev.bind d3 (Ev.bind zi (Ev.bind ze (Ev.pos rfl ?_))))
      rw [show (z.1 != z.1) = false from by simp]
      exact two
    have nought : Ev (fun k => aK.j0 k c n a b v.1 v.2 false p l) true := by
      refine Ev.step (fun k => by rw [aK.j0]) ?_
      exact Ev.neg (by decide) (Ev.bind d2 (Ev.bind xi (Ev.bind xe (Ev.pos rfl (Ev.bind (acX _ xl) one)))))
    refine Ev.bind d1 (Ev.bind vi (Ev.bind ve (Ev.pos rfl ?_)))
    rw [show (v.1 != v.1) = false from by simp]
    exact nought
  exact main.rounds
end Go.Proofs.YtnpepkpogohcmaaGreat.Pure
namespace Go.Proofs.YtnpepkpogohcmaaGreat.fnKernels
open Go.ChangeShapes Go.WideShapes Go.ChangeAt Go.RowKit
open Go.ChangeMaps (open_string shut_string)
set_option linter.unusedVariables false
theorem own : ownKnob Tryz.prog.godebug = none := by kernel_rfl
theorem laidOut : laidOutB Tryz.prog = true := by kernel_rfl
def am1 (k : IntKind) (w : World) (a : Option Addr) (len cap : Nat) (zs : List Int) : Prop :=
  (a = none ∧ len = 0 ∧ cap = 0 ∧ zs = []) ∨
  ∃ x, a = some x ∧ len ≤ cap ∧ cap ≤ maxLen ∧ zs.length = cap ∧ (∀ i, i < zs.length → w.cell? (x.add i) = some (.int k (zs.getD i 0))) ∧ ∀ n ∈ zs, (Lit.int k n).wf = true
set_option maxRecDepth 100000 in
theorem lifted (os : Os) (started : os.Started) (H : Type) (enc : TypeId × Value → H) :
    ReturnsInHanded {} Tryz.checked os 3 .any (Rows.fnKernelsSpec.pre6 enc Tryz.prog Tryz.f3 Rows.fnKernelsRow.domain false) (Rows.fnKernelsSpec.post enc Tryz.prog Tryz.f3 false true false false) := by
  refine returnsInHanded_of_change_sized (C := Tryz.checked) own started (by kernel_rfl) Tryz.func3
    (ChangeSpec.witness6 (enc := enc) (C := Tryz.checked) false ⟨#[], #[.slice none 0 0], []⟩ 8 (by kernel_rfl) (by kernel_rfl) (by kernel_rfl) (by kernel_rfl)) ?_
  intro W base args ds gs before hval0 hW hcnd hsz0 _
  have hsz : (DataW.weightsEach Tryz.prog (Tryz.f3.params.toList ++ Rows.fnKernelsSpec.plain.varTypes Tryz.prog) (ds ++ gs)).all (· ≤ reachBytes) = true := hsz0
  have hval : ∀ (j : Nat) t v, Tryz.f3.params[j]? = some t → args[j]? = some v → Value.okWide Tryz.prog W .any base t v := hval0
  have hW' := hW
  obtain ⟨p, q, hA0, hV, rfl, hfz, hnd⟩ := hW
  have hA : DataW.TrodAll enc Tryz.prog W 0 (fun _ => true) true Tryz.f3.params.toList args.toList ds p := hA0
  rw [Tryz.params3] at hA hval hsz
  obtain ⟨v0, vs0, d0, ds0, p0, q0, hargs, rfl, rfl, h0, r0⟩ := trodAll_cons hA
  obtain ⟨rfl, rfl, rfl⟩ := trodAll_nil r0
  obtain rfl : args = #[v0] := by cases args; simp_all
  obtain ⟨rfl, rfl⟩ := trodVars_none hV
  obtain ⟨a0, Pd, cap0, rfl⟩ := okWide_slice Tryz.underlying22 (hval 0 22 v0 rfl rfl)
  have k0 := h0
  have lt0 : ∀ x ∈ p0, x.block < W.heap.size := by obtain ⟨m, hm⟩ := k0; exact DataW.trod_lt m _ _ _ hm
  obtain ⟨z0, w0⟩ : ∃ zs, am1 .u8 W a0 Pd cap0 zs := by
    obtain ⟨fuel, hf⟩ := h0
    rcases open_ints Tryz.underlying22 Tryz.underlying5 (by kernel_rfl) hf with ⟨hcs, _⟩ | ⟨x, l, c, zs, hcs, _, hl, hm, hz, _, hcell, hwz⟩
    · simp [Value.cells] at hcs
      obtain ⟨rfl, rfl, rfl⟩ := hcs
      exact ⟨[], .inl ⟨rfl, rfl, rfl, rfl⟩⟩
    · simp [Value.cells] at hcs
      obtain ⟨rfl, rfl, rfl⟩ := hcs
      exact ⟨zs, .inr ⟨_, rfl, hl, hm, by simpa using hz, hcell, hwz⟩⟩
  have y0 : Pd * 1 ≤ 140737488351232 := Go.Proofs.YtnpepkpogohcmaaGreatW.PrintWords.Rn hsz (j := 0) (t := 22) rfl rfl Tryz.underlying22 Tryz.underlying5 (by kernel_rfl) (by kernel_rfl) h0
  clear hA0 hval0 hsz0 hsz
  refine (Pr.aK.walk Pure.FnKernels a0 Pd cap0 z0 W w0 y0).mono fun e W' ⟨he, bel⟩ => ?_
  subst he
  exact ⟨_, rfl, _, _, _, [], _, [], hW', trodAll_mk1 (shut_bool Tryz.underlying4 _), (trodAll_cons_mk (Below.trod laidOut (by kernel_rfl) (of_decide_eq_true (by kernel_rfl)) k0 bel lt0) trodAll_mk0), rfl, bel.frame _, fun h => by cases h⟩
theorem over : Rows.fnKernelsRow.holds Tryz.pinned (OpenSpec.ofChange Rows.fnKernelsSpec) :=
  OpenClaim.holds_of_wide 3 Tryz.f3 rfl rfl rfl rfl rfl rfl rfl ⟨rfl, rfl, rfl, rfl, rfl⟩ rfl rfl rfl rfl rfl (by kernel_rfl) Tryz.func3 (by kernel_rfl)
    (of_decide_eq_true (by kernel_rfl)) (by unfold Func.isWrapper; first | (rw [if_pos (by decide +kernel)]; kernel_rfl) | (rw [if_neg (by decide +kernel)]; exact ⟨rfl, rfl⟩))
    (fun os started H enc _ => lifted os started H enc)
theorem proved : Rows.FnKernelsSaid := over
#print axioms proved
end Go.Proofs.YtnpepkpogohcmaaGreat.fnKernels
namespace Go.Proofs.YtnpepkpogohcmaaGreat
/-- The row, under a short name, for the claim. -/
theorem fnKernels_holds : Rows.FnKernelsSaid := fnKernels.proved
end Go.Proofs.YtnpepkpogohcmaaGreat
