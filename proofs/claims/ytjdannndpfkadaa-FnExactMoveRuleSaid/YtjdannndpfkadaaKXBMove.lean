/- MoveRule: for all arguments the program and the reference come to one value; no condition. -/
import Derived.Test.YtjdannndpfkadaaKMoveRule8
import Derived.Test.YtjdannndpfkadaaKXPut
import Derived.Test.YtjdannndpfkadaaKMoveRule7
import Derived.Test.YtjdannndpfkadaaKFspecMoveRule
import Derived.Test.YtjdannndpfkadaaKMoveRule6
namespace Go.Proofs.Ytjdannndpfkadaa.Pr
open Go.RowKit Go.Proofs.YtjdannndpfkadaaW.PrintWords Go.Proofs.YtjdannndpfkadaaW.PrintLast Go.Proofs.YtjdannndpfkadaaW.PrintMore

/-- The moved nodes, put in. -/
def moveGo (p a b : Int) (n w : List Int) : Nat → Nat → List (Int × Int) → List (Int × Int)
  | 0, _, es => es
  | d + 1, i, es => moveGo p a b n w d (i + 1) (addZ p ((a * n.getD i 0 + b) % p) (w.getD i 0) es)
theorem moveGo_len (p a b : Int) (n w : List Int) (d : Nat) : ∀ (i : Nat) (es : List (Int × Int)), (moveGo p a b n w d i es).length ≤ es.length + d := by
  induction d with
  | zero => intro i es; exact Nat.le_refl _
  | succ d ih =>
    intro i es
    have h1 := ih (i + 1) (addZ p ((a * n.getD i 0 + b) % p) (w.getD i 0) es)
    have h2 := addZ_len p ((a * n.getD i 0 + b) % p) (w.getD i 0) es
    simp only [moveGo]
    omega
def moveR (p : Int) (es : List (Int × Int)) : Int × List Int × List Int × Int := (p, es.map Prod.fst, es.map Prod.snd, 0)
/-- Two nodes of a rule do not meet when they are moved. -/
theorem move_ne {p a b x y : Int} (hp : primeB p = true) (ha : 1 ≤ a ∧ a < p) (hx : 0 ≤ x ∧ x < p) (hy : 0 ≤ y ∧ y < p) (h : x < y) : (a * x + b) % p ≠ (a * y + b) % p := by
  intro e
  have h1 : (a * (y - x)) % p = 0 := by
    have e2 : a * (y - x) = (a * y + b) - (a * x + b) := by rw [Int.mul_sub]; omega
    rw [e2, Int.sub_emod, e, Int.sub_self, Int.zero_emod]
  have h2 := primeB.cancel hp ha (Int.dvd_of_emod_eq_zero h1)
  have := Int.le_of_dvd (by omega) h2
  omega
section
variable {p a b : Int} (hr : primeB p = true) (ha : 1 ≤ a ∧ a < p) (hb : 0 ≤ b ∧ b < p) (n w : List Int) (hn : Nm p n) (hw : Nm p w) (hl : n.length ≤ 24) (hwl : w.length = n.length)
include hr ha hb hn hw hl hwl
theorem specMove_l0 (d : Nat) : ∀ (i : Nat) (es : List (Int × Int)), i + d = n.length → es.length + d ≤ 100 → Vm p es →
    Ev (fun k => spec_MoveRule.l0 k a b (i : Int) p n w p (es.map Prod.fst) (es.map Prod.snd)) (moveR p (moveGo p a b n w d i es)) := by
  have hp := primeB.pm hr
  have ht := hp.top
  induction d with
  | zero =>
    intro i es hi he hv
    refine Ev.step (fun k => by rw [spec_MoveRule.l0]) ?_
    exact Ev.neg (by omega) (Ev.now _)
  | succ d ih =>
    intro i es hi he hv
    have h1 := hn.get (i := i) (by omega)
    have h2 := hw.get (i := i) (by omega)
    have h4 := mulP hp (a := a) (by omega) ha.2 h1.1 h1.2
    refine Ev.step (fun k => by rw [spec_MoveRule.l0]) ?_
    refine Ev.pos (by omega) (Ev.pos (by omega) (Ev.neg hp.ne (Ev.pos (by omega) ?_)))
    rw [rd_nat, rd_nat, wrap_id (x := a * n.getD i 0) (by omega) (by omega), wrap_id (x := a * n.getD i 0 + b) (by omega) (by omega), tmod_pos (by omega)]
    refine Ev.bind (specPut_ev hp h2 es (by omega) hv) ?_
    rw [wsucc (i := i) (n := n.length) (by omega) (by omega)]
    have := addZ_len p ((a * n.getD i 0 + b) % p) (w.getD i 0) es
    exact ih (i + 1) _ (by omega) (by omega) (addZ_vm hp h2 hv)
theorem implMove_l0 (hA : ∀ i, i < n.length → ∀ j, j < i → n.getD j 0 < n.getD i 0) (d : Nat) : ∀ (i : Nat) (es : List (Int × Int)), i + d = n.length → es.length + d ≤ 100 → Vm p es → Asc es → (∀ e ∈ es, ∃ j, j < i ∧ e.1 = (a * n.getD j 0 + b) % p) →
    Ev (fun k => impl_MoveRule.l0 k es n (n.length : Int) (i : Int) p n w a b) (moveR p (moveGo p a b n w d i es)) := by
  have hp := primeB.pm hr
  have ht := hp.top
  induction d with
  | zero =>
    intro i es hi he hv hs hk
    refine Ev.step (fun k => by rw [impl_MoveRule.l0]) ?_
    exact Ev.neg (by omega) (Ev.bindE rfl (Ev.now _))
  | succ d ih =>
    intro i es hi he hv hs hk
    have h1 := hn.get (i := i) (by omega)
    have h2 := hw.get (i := i) (by omega)
    have h4 := mulP hp (a := a) (by omega) ha.2 h1.1 h1.2
    have hm := emodB hp.pos (a * n.getD i 0 + b)
    refine Ev.step (fun k => by rw [impl_MoveRule.l0]) ?_
    refine Ev.pos (by omega) (Ev.pos (by omega) (Ev.pos (by omega) (Ev.bindE (a := p) rfl ?_)))
    rw [rd_nat, rd_nat, wrap_id (x := a * n.getD i 0) (by omega) (by omega), wrap_id (x := a * n.getD i 0 + b) (by omega) (by omega)]
    refine Ev.bindE (mod_eq hp _) (Ev.pos (by omega) ?_)
    rw [mput_eq (by omega) (by omega) (by omega)]
    refine Ev.bindE rfl ?_
    have hnew : ∀ e ∈ es, e.1 ≠ (a * n.getD i 0 + b) % p := by
      intro e he
      obtain ⟨j, hj, e1⟩ := hk e he
      rw [e1]
      exact move_ne hr ha (hn.get (i := j) (by omega)) h1 (hA i (by omega) j hj)
    rw [wsucc (i := i) (n := n.length) (by omega) (by omega), putZ_new h2 hs hnew]
    have := addZ_len p ((a * n.getD i 0 + b) % p) (w.getD i 0) es
    refine ih (i + 1) _ (by omega) (by omega) (addZ_vm hp h2 hv) (addZ_asc h2 hs) (fun e he => ?_)
    rcases addZ_mem he with h | ⟨y, hy, h⟩
    · exact ⟨i, by omega, h⟩
    · obtain ⟨j, hj, e1⟩ := hk y hy
      exact ⟨j, by omega, by rw [← h]; exact e1⟩
end
theorem MoveRule_both (p : Int) (n w : List Int) (a b : Int) (hn : Sm n.length) (hw : Sm w.length) :
    ∃ v : Int × List Int × List Int × Int, Ev (fun k => spec_MoveRule.f k p n w a b) v ∧ Ev (fun k => impl_MoveRule.f k p n w a b) v ∧ Sm v.2.1.length ∧ Sm v.2.2.1.length := by
  by_cases h : ruleB p n w = true
  · have hr := ruleB.prime h
    have hp := ruleB.pm h
    have ht := hp.top
    have h0 := hp.two
    have hl := ruleB.lens h
    have hc := ruleCode_ev p n w (decide ((1 ≤ a ∧ a < p) ∧ (0 ≤ b ∧ b < p))) hn hw
    rw [if_pos h] at hc
    have he : impl_MoveRule_1.f p n w a b = some (decide ((1 ≤ a ∧ a < p) ∧ (0 ≤ b ∧ b < p))) := by
      unfold impl_MoveRule_1.f
      show Option.bind (impl_field_isUnit.f p a) _ = _
      rw [isUnit_eq (by omega) (by omega)]
      simp only [Option.bind_some]
      by_cases g : 1 ≤ a ∧ a < p
      · rw [if_pos (decide_eq_true g)]
        show Option.bind (impl_field_has.f p b) _ = _
        rw [has_eq]
        simp only [Option.bind_some]
        congr 1
        exact decide_eq_decide.2 ⟨fun g2 => ⟨g, g2⟩, fun g2 => g2.2⟩
      · rw [if_neg (by simpa using g)]
        congr 1
        exact (decide_eq_false (fun g2 => g g2.1)).symm
    by_cases g : (1 ≤ a ∧ a < p) ∧ (0 ≤ b ∧ b < p)
    · rw [if_pos (decide_eq_true g)] at hc
      have hlen := moveGo_len p a b n w n.length 0 []
      refine ⟨moveR p (moveGo p a b n w n.length 0 []), ?_, ?_, ?_, ?_⟩
      · unfold spec_MoveRule.f
        refine Ev.bind (specRule_ev p n w hn hw) (Ev.pos h (Ev.bindE (in_eq _ _ _) ?_))
        rw [wrap_id (x := p - 1) (by omega) (by omega)]
        refine Ev.pos (decide_eq_true ⟨g.1.1, by omega⟩) (Ev.bindE (in_eq _ _ _) (Ev.pos (decide_eq_true ⟨g.2.1, by omega⟩) ?_))
        exact specMove_l0 hr g.1 g.2 n w (ruleB.nodes h) (ruleB.weights h) hl.1 hl.2 n.length 0 [] (by omega) (by simp; omega) (fun e he => by cases he)
      · unfold impl_MoveRule.f
        refine Ev.bindE he (Ev.bind hc (Ev.pos rfl ?_))
        exact implMove_l0 hr g.1 g.2 n w (ruleB.nodes h) (ruleB.weights h) hl.1 hl.2 (fun i hi => ruleB.asc h hi) n.length 0 [] (by omega) (by simp; omega) (fun e he => by cases he) List.Pairwise.nil (fun e he => by cases he)
      · simp only [moveR, List.length_map]; unfold Sm; simp only [List.length_nil] at hlen; omega
      · simp only [moveR, List.length_map]; unfold Sm; simp only [List.length_nil] at hlen; omega
    · rw [if_neg (by simp only [decide_eq_true_eq]; exact g)] at hc
      refine ⟨(0, [], [], 2), ?_, ?_, Sm0, Sm0⟩
      · unfold spec_MoveRule.f
        refine Ev.bind (specRule_ev p n w hn hw) (Ev.pos h (Ev.bindE (in_eq _ _ _) ?_))
        rw [wrap_id (x := p - 1) (by omega) (by omega)]
        by_cases g1 : 1 ≤ a ∧ a ≤ p - 1
        · refine Ev.pos (decide_eq_true g1) (Ev.bindE (in_eq _ _ _) (Ev.neg ?_ (Ev.now _)))
          simp only [decide_eq_true_eq]
          exact fun g2 => g ⟨⟨g1.1, by omega⟩, g2.1, by omega⟩
        · exact Ev.neg (by simp only [decide_eq_true_eq]; exact g1) (Ev.now _)
      · unfold impl_MoveRule.f
        exact Ev.bindE he (Ev.bind hc (Ev.neg (by decide) (Ev.now _)))
  · refine ⟨(0, [], [], 1), ?_, ?_, Sm0, Sm0⟩
    · unfold spec_MoveRule.f
      exact Ev.bind (specRule_ev p n w hn hw) (Ev.neg h (Ev.now _))
    · obtain ⟨c, hcc⟩ : ∃ c, impl_MoveRule_1.f p n w a b = some c := by
        unfold impl_MoveRule_1.f impl_Rule_field.f impl_field_isUnit.f
        simp only [Option.bind_some, within_eq]
        split
        · rw [has_eq]; exact ⟨_, rfl⟩
        · exact ⟨_, rfl⟩
      have hc := ruleCode_ev p n w c hn hw
      rw [if_neg h] at hc
      unfold impl_MoveRule.f
      exact Ev.bindE hcc (Ev.bind hc (Ev.neg (by decide) (Ev.now _)))
end Go.Proofs.Ytjdannndpfkadaa.Pr
