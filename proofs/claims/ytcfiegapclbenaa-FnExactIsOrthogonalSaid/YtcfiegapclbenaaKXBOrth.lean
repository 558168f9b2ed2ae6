/- IsOrthogonal: for all arguments the program and the reference come to one value; no condition. -/
import Derived.Test.YtcfiegapclbenaaKC22
import Derived.Test.YtcfiegapclbenaaKIsOrthogonal1
import Derived.Test.YtcfiegapclbenaaKFimplIsOrthogonal
namespace Go.Proofs.Ytcfiegapclbenaa.Pr
open Go.RowKit Go.Proofs.YtcfiegapclbenaaW.PrintWords Go.Proofs.YtcfiegapclbenaaW.PrintLast Go.Proofs.YtcfiegapclbenaaW.PrintMore

/-- The functional is 0 at f times x^j, for j from i on. -/
def orthFrom (p : Int) (m f : List Int) (n i : Nat) : Prop := ∀ j, j < n → i ≤ j → applyM p m f j = 0
instance (p : Int) (m f : List Int) (n i : Nat) : Decidable (orthFrom p m f n i) := by unfold orthFrom; infer_instance
theorem orth_step {p : Int} {m f : List Int} {n i : Nat} (h : applyM p m f i = 0) : decide (orthFrom p m f n i) = decide (orthFrom p m f n (i + 1)) := by
  apply decide_eq_decide.2
  constructor
  · exact fun g j h1 h2 => g j h1 (by omega)
  · intro g j h1 h2
    by_cases e : j = i
    · subst e; exact h
    · exact g j h1 (by omega)
theorem specOrth_l0 {p : Int} (hp : Pm p) (m f : List Int) (hm : Nm p m) (hf : Nm p f) (n : Nat) (hn : n ≤ 12) (hlen' : n = 0 ∨ f.length + n ≤ m.length + 1) (hf0 : 0 < f.length) (hs : Sm f.length) (d : Nat) : ∀ i, i + d = n →
    Ev (fun k => spec_IsOrthogonal.l0 k f (n : Int) (i : Int) p m) (decide (orthFrom p m f n i), 0) := by
  induction d with
  | zero =>
    intro i hi
    refine Ev.step (fun k => by rw [spec_IsOrthogonal.l0]) ?_
    refine Ev.neg (by omega) ?_
    refine Ev.step (fun k => by rw [spec_IsOrthogonal.j3]) ?_
    refine Ev.neg (by decide) (Ev.some' ?_)
    rw [decide_eq_true (show orthFrom p m f n i from fun j h1 h2 => by omega)]
  | succ d ih =>
    intro i hi
    have hlen : f.length + n ≤ m.length + 1 := by omega
    refine Ev.step (fun k => by rw [spec_IsOrthogonal.l0]) ?_
    refine Ev.pos (by omega) ?_
    refine Ev.step (fun k => by rw [spec_IsOrthogonal.j3]) ?_
    refine Ev.pos (decide_eq_true (by omega)) (Ev.bind (specApply_ev hp m f hm hf i (.inl (by omega)) hs (by unfold Sm; omega)) ?_)
    by_cases h : applyM p m f i = 0
    · refine Ev.pos h ?_
      rw [orth_step h, wsucc (i := i) (n := n) (by omega) (by omega)]
      exact ih (i + 1) (by omega)
    · refine Ev.neg h (Ev.some' ?_)
      rw [decide_eq_false (fun g => h (g i (by omega) (by omega)))]
theorem implOrth_l0 {p : Int} (hp : Pm p) (m f : List Int) (hm : Nm p m) (hf : Nm p f) (n : Nat) (hn : n ≤ 12) (hlen' : n = 0 ∨ f.length + n ≤ m.length + 1) (hf0 : 0 < f.length) (hs : Sm f.length) (d : Nat) : ∀ i, i + d = n →
    Ev (fun k => impl_IsOrthogonal.l0 k f (n : Int) (i : Int) p m) (decide (orthFrom p m f n i), 0) := by
  induction d with
  | zero =>
    intro i hi
    refine Ev.step (fun k => by rw [impl_IsOrthogonal.l0]) ?_
    refine Ev.neg (by omega) (Ev.some' ?_)
    rw [decide_eq_true (show orthFrom p m f n i from fun j h1 h2 => by omega)]
  | succ d ih =>
    intro i hi
    have hlen : f.length + n ≤ m.length + 1 := by omega
    have ha := implApply_ev hp (m.drop i) f (hm.drop i) hf (by rw [List.length_drop]; omega) hs
    rw [applyM_drop, Nat.zero_add] at ha
    refine Ev.step (fun k => by rw [impl_IsOrthogonal.l0]) ?_
    refine Ev.pos (by omega) (Ev.pos (by omega) (Ev.pos (by omega) (Ev.pos (by omega) (Ev.bind ha ?_))))
    by_cases h : applyM p m f i = 0
    · refine Ev.pos h ?_
      rw [orth_step h, wsucc (i := i) (n := n) (by omega) (by omega)]
      exact ih (i + 1) (by omega)
    · refine Ev.neg h (Ev.some' ?_)
      rw [decide_eq_false (fun g => h (g i (by omega) (by omega)))]
theorem implOrth_nil {p : Int} (m : List Int) (n : Nat) (hn : n ≤ 12) (d : Nat) : ∀ i, i + d = n → Ev (fun k => impl_IsOrthogonal.l0 k [] (n : Int) (i : Int) p m) (true, 0) := by
  induction d with
  | zero =>
    intro i hi
    refine Ev.step (fun k => by rw [impl_IsOrthogonal.l0]) ?_
    exact Ev.neg (by omega) (Ev.now _)
  | succ d ih =>
    intro i hi
    refine Ev.step (fun k => by rw [impl_IsOrthogonal.l0]) ?_
    refine Ev.pos (by omega) (Ev.neg (by simp) ?_)
    rw [wsucc (i := i) (n := n) (by omega) (by omega)]
    exact ih (i + 1) (by omega)
theorem isOrder_eq (a b : Int) : impl_isOrder.f a b = some (decide (b ≤ a ∧ a ≤ 12)) := by
  unfold impl_isOrder.f
  simp only [within_eq, Option.bind_some]
theorem IsOrthogonal_both (p : Int) (l f : List Int) (a : Int) (hl : Sm l.length) (hf : Sm f.length) :
    ∃ v : Bool × Int, Ev (fun k => spec_IsOrthogonal.f k p l f a) v ∧ Ev (fun k => impl_IsOrthogonal.f k p l f a) v := by
  have h1 : impl_IsOrthogonal_1.f a = some (decide (0 ≤ a ∧ a ≤ 12)) := by unfold impl_IsOrthogonal_1.f; rw [isOrder_eq]; rfl
  have hc := fun b => momentsCode_ev p l hl b [f] (by simp [Sm]) (fun g h => by rw [List.mem_singleton.1 h]; exact hf)
  simp only [one_all] at hc
  by_cases h : (momB p l && polyB p f) = true
  case neg =>
    refine ⟨(false, 1), ?_, ?_⟩
    · unfold spec_IsOrthogonal.f
      refine Ev.bind (specAre_ev p l hl) ?_
      by_cases hm : momB p l = true
      · refine Ev.pos hm (Ev.bind (specPoly_ev p f hf) ?_)
        rw [show polyB p f = false from by rw [hm, Bool.true_and] at h; exact Bool.eq_false_iff.2 h]
        refine Ev.step (fun n => by rw [spec_IsOrthogonal.j0]) ?_
        exact Ev.pos rfl (Ev.now _)
      · refine Ev.neg hm ?_
        refine Ev.step (fun n => by rw [spec_IsOrthogonal.j0]) ?_
        exact Ev.pos rfl (Ev.now _)
    · unfold impl_IsOrthogonal.f
      have hc := hc (decide (0 ≤ a ∧ a ≤ 12))
      rw [if_neg h] at hc
      exact Ev.bindE h1 (Ev.bind hc (Ev.neg (by simp) (Ev.now _)))
  have hm : momB p l = true := by simp only [Bool.and_eq_true] at h; exact h.1
  have hpf : polyB p f = true := by simp only [Bool.and_eq_true] at h; exact h.2
  have hp := (momB.pm hm)
  have hll := momB.len hm
  have hfl := polyB.len hpf
  -- the reference, up to its last tests
  have hspec : ∀ v, Ev (fun k => spec_IsOrthogonal.j0 k f a false p l) v → Ev (fun k => spec_IsOrthogonal.f k p l f a) v := by
    intro v hv
    unfold spec_IsOrthogonal.f
    refine Ev.bind (specAre_ev p l hl) (Ev.pos hm (Ev.bind (specPoly_ev p f hf) ?_))
    rw [hpf]
    exact hv
  by_cases ha : 0 ≤ a ∧ a ≤ 12
  case neg =>
    refine ⟨(false, 2), hspec _ ?_, ?_⟩
    · refine Ev.step (fun n => by rw [spec_IsOrthogonal.j0]) ?_
      exact Ev.neg (by decide) (Ev.bindE (in_eq _ _ _) (Ev.neg (by simpa using ha) (Ev.now _)))
    · unfold impl_IsOrthogonal.f
      have hc := hc false
      rw [if_pos h] at hc
      rw [decide_eq_false ha] at h1
      exact Ev.bindE h1 (Ev.bind hc (Ev.neg (by simp) (Ev.now _)))
  obtain ⟨n, rfl⟩ := Int.eq_ofNat_of_zero_le ha.1
  have hc := hc true
  rw [if_pos h] at hc
  rw [decide_eq_true ha] at h1
  have hi : ∀ v, Ev (fun k => (if (f.length : Int) > 0 then (if (n : Int) > 0 then ((impl_degree.f f).bind fun t477 => ((impl_length_int64.f l).bind fun t478 => (impl_IsOrthogonal.j0 k f (decide ((wrap64 ((wrap64 (t477 + (n : Int))) - 1)) ≥ t478)) p l (n : Int)))) else (impl_IsOrthogonal.j0 k f false p l (n : Int))) else (impl_IsOrthogonal.j0 k f false p l (n : Int)))) v →
      Ev (fun k => impl_IsOrthogonal.f k p l f (n : Int)) v := by
    intro v hv
    unfold impl_IsOrthogonal.f
    exact Ev.bindE h1 (Ev.bind hc (Ev.pos rfl hv))
  by_cases hf0 : 0 < f.length
  case neg =>
    have e : f = [] := List.length_eq_zero_iff.1 (by omega)
    subst e
    refine ⟨(true, 0), hspec _ ?_, hi _ ?_⟩
    · refine Ev.step (fun n => by rw [spec_IsOrthogonal.j0]) ?_
      refine Ev.neg (by decide) (Ev.bindE (in_eq _ _ _) (Ev.pos (decide_eq_true ha) (Ev.neg (by simp) ?_)))
      refine Ev.step (fun n => by rw [spec_IsOrthogonal.j1]) ?_
      refine Ev.step (fun n => by rw [spec_IsOrthogonal.l0]) ?_
      by_cases hn0 : (0 : Int) < (n : Int)
      · refine Ev.pos hn0 ?_
        refine Ev.step (fun n => by rw [spec_IsOrthogonal.j3]) ?_
        exact Ev.neg (by simp) (Ev.now _)
      · refine Ev.neg hn0 ?_
        refine Ev.step (fun n => by rw [spec_IsOrthogonal.j3]) ?_
        exact Ev.neg (by simp) (Ev.now _)
    · refine Ev.neg (by simp) ?_
      refine Ev.step (fun n => by rw [impl_IsOrthogonal.j0]) ?_
      refine Ev.neg (by decide) ?_
      exact implOrth_nil l n (by omega) n 0 (by omega)
  have hdeg : impl_degree.f f = some ((f.length : Int) - 1) := by
    unfold impl_degree.f impl_length_int64.f
    simp only [Option.bind_some]
    rw [wrap_id (by omega) (by omega)]
  by_cases hn0 : 0 < n
  case neg =>
    obtain rfl : n = 0 := by omega
    refine ⟨(decide (orthFrom p l f 0 0), 0), hspec _ ?_, hi _ ?_⟩
    · refine Ev.step (fun n => by rw [spec_IsOrthogonal.j0]) ?_
      refine Ev.neg (by decide) (Ev.bindE (in_eq _ _ _) (Ev.pos (decide_eq_true ha) (Ev.pos (by omega) (Ev.neg (by omega) ?_))))
      refine Ev.step (fun n => by rw [spec_IsOrthogonal.j1]) ?_
      exact specOrth_l0 hp l f (momB.nm hm) (polyB.nm hpf) 0 (by omega) (.inl rfl) hf0 hf 0 0 (by omega)
    · refine Ev.pos (by omega) (Ev.neg (by omega) ?_)
      refine Ev.step (fun n => by rw [impl_IsOrthogonal.j0]) ?_
      refine Ev.neg (by decide) ?_
      exact implOrth_l0 hp l f (momB.nm hm) (polyB.nm hpf) 0 (by omega) (.inl rfl) hf0 hf 0 0 (by omega)
  by_cases hg : f.length + n ≤ l.length + 1
  · refine ⟨(decide (orthFrom p l f n 0), 0), hspec _ ?_, hi _ ?_⟩
    · refine Ev.step (fun n => by rw [spec_IsOrthogonal.j0]) ?_
      refine Ev.neg (by decide) (Ev.bindE (in_eq _ _ _) (Ev.pos (decide_eq_true ha) (Ev.pos (by omega) (Ev.pos (by omega) ?_))))
      rw [wrap_id (x := (f.length : Int) + (n : Int)) (by omega) (by omega), wrap_id (by omega) (by omega)]
      refine Ev.neg (by omega) (Ev.step (fun n => by rw [spec_IsOrthogonal.j1]) ?_)
      exact specOrth_l0 hp l f (momB.nm hm) (polyB.nm hpf) n (by omega) (.inr hg) hf0 hf n 0 (by omega)
    · refine Ev.pos (by omega) (Ev.pos (by omega) (Ev.bindE hdeg (Ev.bindE (a := (l.length : Int)) rfl ?_)))
      rw [wrap_id (x := (f.length : Int) - 1 + (n : Int)) (by omega) (by omega), wrap_id (by omega) (by omega), decide_eq_false (by omega)]
      refine Ev.step (fun n => by rw [impl_IsOrthogonal.j0]) ?_
      refine Ev.neg (by decide) ?_
      exact implOrth_l0 hp l f (momB.nm hm) (polyB.nm hpf) n (by omega) (.inr hg) hf0 hf n 0 (by omega)
  · refine ⟨(false, 5), hspec _ ?_, hi _ ?_⟩
    · refine Ev.step (fun n => by rw [spec_IsOrthogonal.j0]) ?_
      refine Ev.neg (by decide) (Ev.bindE (in_eq _ _ _) (Ev.pos (decide_eq_true ha) (Ev.pos (by omega) (Ev.pos (by omega) ?_))))
      rw [wrap_id (x := (f.length : Int) + (n : Int)) (by omega) (by omega), wrap_id (by omega) (by omega)]
      exact Ev.pos (by omega) (Ev.now _)
    · refine Ev.pos (by omega) (Ev.pos (by omega) (Ev.bindE hdeg (Ev.bindE (a := (l.length : Int)) rfl ?_)))
      rw [wrap_id (x := (f.length : Int) - 1 + (n : Int)) (by omega) (by omega), wrap_id (by omega) (by omega), decide_eq_true (by omega)]
      refine Ev.step (fun n => by rw [impl_IsOrthogonal.j0]) ?_
      exact Ev.pos rfl (Ev.now _)
end Go.Proofs.Ytcfiegapclbenaa.Pr
