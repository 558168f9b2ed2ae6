/- MergeRules: for all arguments the program and the reference come to one value; no condition. -/
import Derived.Test.YtjdannndpfkadaaKMergeRules5
import Derived.Test.YtjdannndpfkadaaKXPut
import Derived.Test.YtjdannndpfkadaaKFspecMergeRules
import Derived.Test.YtjdannndpfkadaaKFimplMergeRules
namespace Go.Proofs.Ytjdannndpfkadaa.Pr
open Go.RowKit Go.Proofs.YtjdannndpfkadaaW.PrintWords Go.Proofs.YtjdannndpfkadaaW.PrintLast Go.Proofs.YtjdannndpfkadaaW.PrintMore

/-- The first rule's nodes with their weights, one after another. -/
def pairs (n w : List Int) : Nat → List (Int × Int)
  | 0 => []
  | i + 1 => pairs n w i ++ [(n.getD i 0, w.getD i 0)]
theorem pairs_len (n w : List Int) (i : Nat) : (pairs n w i).length = i := by
  induction i with
  | zero => rfl
  | succ i ih => simp only [pairs, List.length_append, ih, List.length_singleton]
theorem take_snoc (l : List Int) {i : Nat} (h : i < l.length) : l.take (i + 1) = l.take i ++ [l.getD i 0] := by
  rw [List.take_add_one]
  simp [List.getD, h]
theorem pairs_fst (n w : List Int) (i : Nat) (h : i ≤ n.length) : (pairs n w i).map Prod.fst = n.take i := by
  induction i with
  | zero => rfl
  | succ i ih => simp only [pairs, List.map_append, ih (by omega), List.map_cons, List.map_nil]; rw [take_snoc n (by omega)]
theorem pairs_snd (n w : List Int) (i : Nat) (h : i ≤ w.length) : (pairs n w i).map Prod.snd = w.take i := by
  induction i with
  | zero => rfl
  | succ i ih => simp only [pairs, List.map_append, ih (by omega), List.map_cons, List.map_nil]; rw [take_snoc w (by omega)]
theorem pairs_vm {p : Int} {n w : List Int} (hw : Nm p w) (i : Nat) (h : i ≤ w.length) : Vm p (pairs n w i) := by
  induction i with
  | zero => intro e he; cases he
  | succ i ih =>
    intro e he
    rcases List.mem_append.1 he with he | he
    · exact ih (by omega) e he
    · cases List.mem_singleton.1 he
      exact hw.get (by omega)
theorem pairs_mem {n w : List Int} {i : Nat} {e : Int × Int} (h : e ∈ pairs n w i) : ∃ j, j < i ∧ e.1 = n.getD j 0 := by
  induction i with
  | zero => cases h
  | succ i ih =>
    rcases List.mem_append.1 h with h | h
    · obtain ⟨j, hj, e⟩ := ih h
      exact ⟨j, by omega, e⟩
    · cases List.mem_singleton.1 h
      exact ⟨i, by omega, rfl⟩
theorem putZ_last {es : List (Int × Int)} {x v : Int} (h : ∀ e ∈ es, e.1 < x) : putZ es x v = es ++ [(x, v)] := by
  unfold putZ
  rw [List.filter_eq_self.2 (fun q hq => by have := h q hq; have e : q.1 ≠ x := by omega
                                            simpa using e)]
  induction es with
  | nil => rfl
  | cons y r ih =>
    have := h y (List.mem_cons_self ..)
    simp only [insZ]
    rw [if_neg (by omega), ih (fun e he => h e (List.mem_cons_of_mem _ he))]
    rfl
theorem pairs_asc {p : Int} {n w : List Int} (h : ruleB p n w = true) (i : Nat) (hi : i ≤ n.length) : Asc (pairs n w i) := by
  induction i with
  | zero => exact List.Pairwise.nil
  | succ i ih =>
    have e : pairs n w (i + 1) = putZ (pairs n w i) (n.getD i 0) (w.getD i 0) := by
      rw [putZ_last]
      · rfl
      · intro e he
        obtain ⟨j, hj, e1⟩ := pairs_mem he
        have := ruleB.asc h (i := i) (by omega) j hj
        omega
    rw [e]
    exact putZ_asc (ih (by omega)) _ _
/-- The second rule's nodes, put in. -/
def mergeGo (p c : Int) (n w : List Int) : Nat → Nat → List (Int × Int) → List (Int × Int)
  | 0, _, es => es
  | d + 1, i, es => mergeGo p c n w d (i + 1) (addZ p (n.getD i 0) (c * w.getD i 0 % p) es)
def mergeR (p : Int) (es : List (Int × Int)) : Int × List Int × List Int × Int := if es.length > 24 then (0, [], [], 3) else (p, es.map Prod.fst, es.map Prod.snd, 0)
theorem mergeR_no {p : Int} {es : List (Int × Int)} (h : es.length > 24) : (0, [], [], 3) = mergeR p es := by unfold mergeR; rw [if_pos h]
theorem mergeR_yes {p : Int} {es : List (Int × Int)} (h : ¬ es.length > 24) : (p, es.map Prod.fst, es.map Prod.snd, 0) = mergeR p es := by unfold mergeR; rw [if_neg h]
theorem mergeR_len (p : Int) (es : List (Int × Int)) : Sm (mergeR p es).2.1.length ∧ Sm (mergeR p es).2.2.1.length := by
  unfold mergeR Sm
  split
  · exact ⟨Nat.zero_le _, Nat.zero_le _⟩
  · simp only [List.length_map]; omega
section
variable {p c : Int} (hp : Pm p) (hc : 0 ≤ c ∧ c < p) (n1 w1 n w : List Int) (hn : Nm p n) (hw : Nm p w) (hl : n.length ≤ 24) (hwl : w.length = n.length)
include hp hc hw hl hwl
theorem specMerge_l0 (d : Nat) : ∀ (i : Nat) (es : List (Int × Int)), i + d = n.length → es.length + d ≤ 100 → Vm p es →
    Ev (fun k => spec_MergeRules.l0 k c (i : Int) p n1 w1 p n w p (es.map Prod.fst) (es.map Prod.snd)) (mergeR p (mergeGo p c n w d i es)) := by
  induction d with
  | zero =>
    intro i es hi he hv
    refine Ev.step (fun k => by rw [spec_MergeRules.l0]) ?_
    refine Ev.neg (by omega) ?_
    show Ev _ (mergeR p es)
    by_cases h : es.length > 24
    · exact Ev.pos (by rw [List.length_map]; omega) (Ev.some' (mergeR_no h))
    · exact Ev.neg (by rw [List.length_map]; omega) (Ev.some' (mergeR_yes h))
  | succ d ih =>
    intro i es hi he hv
    have h2 := hw.get (i := i) (by omega)
    have h4 := mulP hp hc.1 hc.2 h2.1 h2.2
    have hm := emodB hp.pos (c * w.getD i 0)
    refine Ev.step (fun k => by rw [spec_MergeRules.l0]) ?_
    refine Ev.pos (by omega) (Ev.pos (by omega) (Ev.pos (by omega) (Ev.neg hp.ne ?_)))
    rw [rd_nat, rd_nat, wrap_id (x := c * w.getD i 0) (by omega) (by omega), tmod_pos h4.1]
    refine Ev.bind (specPut_ev hp hm es (by omega) hv) ?_
    rw [wsucc (i := i) (n := n.length) (by omega) (by omega)]
    have := addZ_len p (n.getD i 0) (c * w.getD i 0 % p) es
    exact ih (i + 1) _ (by omega) (by omega) (addZ_vm hp hm hv)
include hn
theorem implMerge_l1 (d : Nat) : ∀ (i : Nat) (es : List (Int × Int)), i + d = n.length → es.length + d ≤ 100 → Vm p es → Asc es →
    Ev (fun k => impl_MergeRules.l1 k c es n (n.length : Int) (i : Int) p n1 w1 p n w) (mergeR p (mergeGo p c n w d i es)) := by
  induction d with
  | zero =>
    intro i es hi he hv ha
    refine Ev.step (fun k => by rw [impl_MergeRules.l1]) ?_
    refine Ev.neg (by omega) ?_
    show Ev _ (mergeR p es)
    by_cases h : es.length > 24
    · exact Ev.pos (by omega) (Ev.some' (mergeR_no h))
    · exact Ev.neg (by omega) (Ev.bindE rfl (Ev.some' (mergeR_yes h)))
  | succ d ih =>
    intro i es hi he hv ha
    have ht := hp.top
    have h1 := hn.get (i := i) (by omega)
    have h2 := hw.get (i := i) (by omega)
    have h4 := mulP hp hc.1 hc.2 h2.1 h2.2
    have hm := emodB hp.pos (c * w.getD i 0)
    have hg : 0 ≤ getZ es (n.getD i 0) ∧ getZ es (n.getD i 0) < p := by
      unfold getZ
      cases hf : es.find? (fun q => decide (q.1 = n.getD i 0)) with
      | none => exact ⟨Int.le_refl _, hp.pos⟩
      | some q => exact hv q (List.mem_of_find?_eq_some hf)
    have hm2 := emodB hp.pos (getZ es (n.getD i 0) + c * w.getD i 0)
    refine Ev.step (fun k => by rw [impl_MergeRules.l1]) ?_
    refine Ev.pos (by omega) (Ev.pos (by omega) (Ev.pos (by omega) ?_))
    refine Ev.bindE (a := p) rfl (Ev.pos (by omega) ?_)
    rw [rd_nat, rd_nat, wrap_id (x := c * w.getD i 0) (by omega) (by omega), wrap_id (by omega) (by omega)]
    refine Ev.bindE (mod_eq hp _) ?_
    rw [mput_eq (by omega) (by omega) (by omega)]
    refine Ev.bindE rfl ?_
    rw [wsucc (i := i) (n := n.length) (by omega) (by omega), show (getZ es (n.getD i 0) + c * w.getD i 0) % p = (getZ es (n.getD i 0) + c * w.getD i 0 % p) % p from by simp, putZ_add hm ha]
    have := addZ_len p (n.getD i 0) (c * w.getD i 0 % p) es
    exact ih (i + 1) _ (by omega) (by omega) (addZ_vm hp hm hv) (addZ_asc hm ha)
omit hw hwl hn hc hl
theorem implMerge_l0 (hr : ruleB p n1 w1 = true) (r : Int × List Int × List Int × Int) (d : Nat) : ∀ (i : Nat), i + d = n1.length →
    Ev (fun k => impl_MergeRules.l1 k c (pairs n1 w1 n1.length) n (n.length : Int) 0 p n1 w1 p n w) r →
    Ev (fun k => impl_MergeRules.l0 k c (pairs n1 w1 i) n1 (n1.length : Int) (i : Int) p n1 w1 p n w) r := by
  have hl1 := ruleB.lens hr
  have hn1 := ruleB.nodes hr
  have hw1 := ruleB.weights hr
  induction d with
  | zero =>
    intro i hi e
    refine Ev.step (fun k => by rw [impl_MergeRules.l0]) ?_
    refine Ev.neg (by omega) ?_
    rw [show i = n1.length from by omega]
    exact e
  | succ d ih =>
    intro i hi e
    have ht := hp.top
    have h1 := hn1.get (i := i) (by omega)
    have h2 := hw1.get (i := i) (by omega)
    refine Ev.step (fun k => by rw [impl_MergeRules.l0]) ?_
    refine Ev.pos (by omega) (Ev.pos (by omega) (Ev.pos (by omega) (Ev.pos (by omega) ?_)))
    rw [rd_nat, rd_nat, mput_eq (by rw [pairs_len]; omega) (by omega) (by omega)]
    refine Ev.bindE rfl ?_
    rw [wsucc (i := i) (n := n1.length) (by omega) (by omega), putZ_last]
    · exact ih (i + 1) (by omega) e
    · intro e he
      obtain ⟨j, hj, e1⟩ := pairs_mem he
      have := ruleB.asc hr (i := i) (by omega) j hj
      omega
end
theorem MergeRules_both (p : Int) (n w : List Int) (q : Int) (n2 w2 : List Int) (c : Int) (hn : Sm n.length) (hw : Sm w.length) (hn2 : Sm n2.length) (hw2 : Sm w2.length) :
    ∃ v : Int × List Int × List Int × Int, Ev (fun k => spec_MergeRules.f k p n w q n2 w2 c) v ∧ Ev (fun k => impl_MergeRules.f k p n w q n2 w2 c) v ∧ Sm v.2.1.length ∧ Sm v.2.2.1.length := by
  have no : ¬ (ruleB p n w = true ∧ ruleB q n2 w2 = true) → ∃ v : Int × List Int × List Int × Int, Ev (fun k => spec_MergeRules.f k p n w q n2 w2 c) v ∧ Ev (fun k => impl_MergeRules.f k p n w q n2 w2 c) v ∧ Sm v.2.1.length ∧ Sm v.2.2.1.length := by
    intro g
    refine ⟨(0, [], [], 1), ?_, ?_, Sm0, Sm0⟩
    · unfold spec_MergeRules.f
      refine Ev.bind (specRule_ev p n w hn hw) ?_
      by_cases h : ruleB p n w = true
      · refine Ev.pos h (Ev.bind (specRule_ev q n2 w2 hn2 hw2) ?_)
        refine Ev.step (fun k => by rw [spec_MergeRules.j0]) ?_
        exact Ev.pos (by simp [show ruleB q n2 w2 = false from Bool.eq_false_iff.2 fun h2 => g ⟨h, h2⟩]) (Ev.now _)
      · refine Ev.neg h ?_
        refine Ev.step (fun k => by rw [spec_MergeRules.j0]) ?_
        exact Ev.pos rfl (Ev.now _)
    · unfold impl_MergeRules.f
      refine Ev.bind (implRule_ev p n w hn hw) ?_
      by_cases h : ruleB p n w = true
      · refine Ev.pos h (Ev.bind (implRule_ev q n2 w2 hn2 hw2) ?_)
        refine Ev.step (fun k => by rw [impl_MergeRules.j0]) ?_
        exact Ev.pos (by simp [show ruleB q n2 w2 = false from Bool.eq_false_iff.2 fun h2 => g ⟨h, h2⟩]) (Ev.now _)
      · refine Ev.neg h ?_
        refine Ev.step (fun k => by rw [impl_MergeRules.j0]) ?_
        exact Ev.pos rfl (Ev.now _)
  by_cases g : ruleB p n w = true ∧ ruleB q n2 w2 = true
  case neg => exact no g
  obtain ⟨h, h2⟩ := g
  have hp := ruleB.pm h
  have ht := hp.top
  have h0 := hp.two
  have hl := ruleB.lens h
  have hl2 := ruleB.lens h2
  by_cases e : p = q ∧ (0 ≤ c ∧ c < p)
  · obtain ⟨rfl, hc⟩ := e
    refine ⟨mergeR p (mergeGo p c n2 w2 n2.length 0 (pairs n w n.length)), ?_, ?_, mergeR_len _ _⟩
    · unfold spec_MergeRules.f
      refine Ev.bind (specRule_ev p n w hn hw) (Ev.pos h (Ev.bind (specRule_ev p n2 w2 hn2 hw2) ?_))
      refine Ev.step (fun k => by rw [spec_MergeRules.j0]) ?_
      rw [h2]
      refine Ev.neg (by decide) (Ev.pos rfl (Ev.bindE (in_eq _ _ _) ?_))
      rw [wrap_id (by omega) (by omega)]
      refine Ev.pos (decide_eq_true ⟨hc.1, by omega⟩) (Ev.bindE (own_eq _ hn) (Ev.bindE (own_eq _ hw) ?_))
      have := specMerge_l0 hp hc n w n2 w2 (ruleB.weights h2) hl2.1 hl2.2 n2.length 0 (pairs n w n.length) (by omega) (by rw [pairs_len]; omega) (pairs_vm (ruleB.weights h) _ (by omega))
      rw [pairs_fst n w _ (Nat.le_refl _), pairs_snd n w _ (by omega), List.take_length, List.take_of_length_le (by omega)] at this
      exact this
    · unfold impl_MergeRules.f
      refine Ev.bind (implRule_ev p n w hn hw) (Ev.pos h (Ev.bind (implRule_ev p n2 w2 hn2 hw2) ?_))
      refine Ev.step (fun k => by rw [impl_MergeRules.j0]) ?_
      rw [h2]
      refine Ev.neg (by decide) (Ev.pos rfl (Ev.bindE (a := p) rfl (Ev.bindE (has_eq _ _) ?_)))
      refine Ev.pos (decide_eq_true hc) ?_
      refine implMerge_l0 hp n w n2 w2 h _ n.length 0 (by omega) ?_
      exact implMerge_l1 hp hc n w n2 w2 (ruleB.nodes h2) (ruleB.weights h2) hl2.1 hl2.2 n2.length 0 (pairs n w n.length) (by omega) (by rw [pairs_len]; omega) (pairs_vm (ruleB.weights h) _ (by omega)) (pairs_asc h _ (Nat.le_refl _))
  · refine ⟨(0, [], [], 2), ?_, ?_, Sm0, Sm0⟩
    · unfold spec_MergeRules.f
      refine Ev.bind (specRule_ev p n w hn hw) (Ev.pos h (Ev.bind (specRule_ev q n2 w2 hn2 hw2) ?_))
      refine Ev.step (fun k => by rw [spec_MergeRules.j0]) ?_
      rw [h2]
      refine Ev.neg (by decide) ?_
      by_cases e1 : p = q
      · refine Ev.pos e1 (Ev.bindE (in_eq _ _ _) ?_)
        rw [wrap_id (by omega) (by omega)]
        exact Ev.neg (by simp only [decide_eq_true_eq]; exact fun g => e ⟨e1, g.1, by omega⟩) (Ev.now _)
      · exact Ev.neg e1 (Ev.now _)
    · unfold impl_MergeRules.f
      refine Ev.bind (implRule_ev p n w hn hw) (Ev.pos h (Ev.bind (implRule_ev q n2 w2 hn2 hw2) ?_))
      refine Ev.step (fun k => by rw [impl_MergeRules.j0]) ?_
      rw [h2]
      refine Ev.neg (by decide) ?_
      by_cases e1 : p = q
      · refine Ev.pos e1 (Ev.bindE (a := p) rfl (Ev.bindE (has_eq _ _) ?_))
        exact Ev.neg (by simp only [decide_eq_true_eq]; exact fun g => e ⟨e1, g⟩) (Ev.now _)
      · exact Ev.neg e1 (Ev.now _)
end Go.Proofs.Ytjdannndpfkadaa.Pr
