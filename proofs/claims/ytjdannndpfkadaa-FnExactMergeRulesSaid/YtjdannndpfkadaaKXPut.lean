/- A node put into a rule: what the reference does, and the program's map beside it; lists of pairs in the keys' order. No condition. -/
import Derived.Test.YtjdannndpfkadaaKMergeRules3
import Derived.Test.YtjdannndpfkadaaKMergeRules1
import Derived.Test.YtjdannndpfkadaaKFspecl07Put
namespace Go.Proofs.Ytjdannndpfkadaa.Pr
open Go Go.RowKit Go.Proofs.YtjdannndpfkadaaW.PrintWords Go.Proofs.YtjdannndpfkadaaW.PrintLast Go.Proofs.YtjdannndpfkadaaW.PrintMore

def addZ (p x v : Int) : List (Int × Int) → List (Int × Int)
  | [] => [(x, v)]
  | y :: r => if y.1 < x then y :: addZ p x v r else if y.1 = x then (y.1, (y.2 + v) % p) :: r else (x, v) :: y :: r
def tri (p : Int) (es : List (Int × Int)) : Int × List Int × List Int := (p, es.map Prod.fst, es.map Prod.snd)
theorem addZ_len (p x v : Int) (es : List (Int × Int)) : (addZ p x v es).length ≤ es.length + 1 := by
  induction es with
  | nil => exact Nat.le_refl _
  | cons y r ih =>
    simp only [addZ]
    split
    · simp only [List.length_cons]; omega
    · split <;> simp only [List.length_cons] <;> omega
/-- Second halves modulo p. -/
def Vm (p : Int) (es : List (Int × Int)) : Prop := ∀ e ∈ es, 0 ≤ e.2 ∧ e.2 < p
theorem addZ_vm {p : Int} (hp : Pm p) {x v : Int} (hv : 0 ≤ v ∧ v < p) {es : List (Int × Int)} (h : Vm p es) : Vm p (addZ p x v es) := by
  induction es with
  | nil => intro e he; cases List.mem_singleton.1 he; exact hv
  | cons y r ih =>
    have h1 : 0 ≤ y.2 ∧ y.2 < p := h y (List.mem_cons_self ..)
    have h2 : Vm p r := fun e he => h e (List.mem_cons_of_mem _ he)
    simp only [addZ]
    split
    · intro e he
      rcases List.mem_cons.1 he with rfl | he
      · exact h1
      · exact ih h2 e he
    · split
      · intro e he
        rcases List.mem_cons.1 he with rfl | he
        · exact emodB hp.pos _
        · exact h2 e he
      · intro e he
        rcases List.mem_cons.1 he with rfl | he
        · exact hv
        · exact h e he
theorem specPut_ins {p x v : Int} (a b : List (Int × Int)) (hs : a.length + b.length < 1048576) :
    Ev (fun k => spec_l07Put.j2 k x v (a.length : Int) false p ((a ++ b).map Prod.fst) ((a ++ b).map Prod.snd)) (tri p (a ++ (x, v) :: b)) := by
  have l1 : ((a ++ b).map Prod.fst).length = a.length + b.length := by simp
  have l2 : ((a ++ b).map Prod.snd).length = a.length + b.length := by simp
  have t1 : ((a ++ b).map Prod.fst).take a.length = a.map Prod.fst := by rw [List.map_append]; exact List.take_left' (by simp)
  have t2 : ((a ++ b).map Prod.snd).take a.length = a.map Prod.snd := by rw [List.map_append]; exact List.take_left' (by simp)
  have d1 : ((a ++ b).map Prod.fst).drop a.length = b.map Prod.fst := by rw [List.map_append]; exact List.drop_left' (by simp)
  have d2 : ((a ++ b).map Prod.snd).drop a.length = b.map Prod.snd := by rw [List.map_append]; exact List.drop_left' (by simp)
  refine Ev.step (fun k => by rw [spec_l07Put.j2]) ?_
  refine Ev.neg (by decide) ?_
  refine Ev.pos ⟨by omega, by rw [l1]; omega, by rw [l2]; omega⟩ ?_
  rw [toNat_nat, t1, t2, d1, d2, own_eq _ (by unfold Sm; simp; omega), own_eq _ (by unfold Sm; simp; omega)]
  simp only [Option.bind_some]
  rw [if_pos (by simp; omega), if_pos (by simp; omega), if_pos (by simp; omega), if_pos (by simp; omega)]
  refine Ev.some' ?_
  simp [tri]
theorem specPut_l0 {p : Int} (hp : Pm p) {x v : Int} (hv : 0 ≤ v ∧ v < p) (b : List (Int × Int)) : ∀ a : List (Int × Int), a.length + b.length < 1048576 → Vm p b →
    Ev (fun k => spec_l07Put.l0 k x v (a.length : Int) p ((a ++ b).map Prod.fst) ((a ++ b).map Prod.snd)) (tri p (a ++ addZ p x v b)) := by
  induction b with
  | nil =>
    intro a hs _
    have l1 : ((a ++ ([] : List (Int × Int))).map Prod.fst).length = a.length := by simp
    refine Ev.step (fun k => by rw [spec_l07Put.l0]) ?_
    refine Ev.neg (by rw [l1]; omega) ?_
    refine Ev.step (fun k => by rw [spec_l07Put.j1]) ?_
    refine Ev.neg (by rw [l1]; omega) ?_
    exact specPut_ins a [] hs
  | cons y r ih =>
    intro a hs hb
    simp only [List.length_cons] at hs
    have h1 : 0 ≤ y.2 ∧ y.2 < p := hb y (List.mem_cons_self ..)
    have l1 : ((a ++ y :: r).map Prod.fst).length = a.length + (r.length + 1) := by simp
    have l2 : ((a ++ y :: r).map Prod.snd).length = a.length + (r.length + 1) := by simp
    have g1 : ((a ++ y :: r).map Prod.fst).getD a.length 0 = y.1 := by simp
    have g2 : ((a ++ y :: r).map Prod.snd).getD a.length 0 = y.2 := by simp
    refine Ev.step (fun k => by rw [spec_l07Put.l0]) ?_
    refine Ev.pos (by rw [l1]; omega) (Ev.pos (by omega) ?_)
    rw [rd_nat, g1]
    by_cases h : y.1 < x
    · refine Ev.pos h ?_
      rw [wsucc (i := a.length) (n := a.length + 1) (by omega) (by omega)]
      have := ih (a ++ [y]) (by simp; omega) (fun e he => hb e (List.mem_cons_of_mem _ he))
      rw [List.length_append, List.append_assoc, List.append_assoc] at this
      have e : addZ p x v (y :: r) = y :: addZ p x v r := by simp only [addZ]; rw [if_pos h]
      rw [e]
      exact this
    · refine Ev.neg h ?_
      refine Ev.step (fun k => by rw [spec_l07Put.j1]) ?_
      refine Ev.pos (by rw [l1]; omega) (Ev.pos (by omega) ?_)
      rw [rd_nat, g1]
      by_cases h2 : y.1 = x
      · have e : addZ p x v (y :: r) = (y.1, (y.2 + v) % p) :: r := by simp only [addZ]; rw [if_neg h, if_pos h2]
        rw [e]
        refine Ev.step (fun k => by rw [spec_l07Put.j2]) ?_
        refine Ev.pos (by simpa using h2) (Ev.bindE (own_eq _ (by unfold Sm; rw [l2]; omega)) ?_)
        refine Ev.pos (by omega) (Ev.pos (by rw [l2]; omega) (Ev.neg hp.ne ?_))
        have ht := hp.top
        rw [rd_nat, g2, wrap_id (by omega) (by omega), tmod_pos (by omega), toNat_nat]
        refine Ev.some' ?_
        simp [tri, List.map_append]
      · have e : addZ p x v (y :: r) = (x, v) :: y :: r := by simp only [addZ]; rw [if_neg h, if_neg h2]
        rw [e, show (y.1 == x) = false from by simpa using h2]
        exact specPut_ins a (y :: r) (by simp only [List.length_cons]; omega)
theorem specPut_ev {p : Int} (hp : Pm p) {x v : Int} (hv : 0 ≤ v ∧ v < p) (es : List (Int × Int)) (hs : es.length < 1048576) (hb : Vm p es) :
    Ev (fun k => spec_l07Put.f k p (es.map Prod.fst) (es.map Prod.snd) x v) (tri p (addZ p x v es)) := by
  unfold spec_l07Put.f
  exact specPut_l0 hp hv es [] (by simpa using hs) hb
/-- What the program's map becomes. -/
theorem putZ_add {p : Int} {x v : Int} (hv : 0 ≤ v ∧ v < p) {es : List (Int × Int)} (h : Asc es) : putZ es x ((getZ es x + v) % p) = addZ p x v es := by
  induction es with
  | nil =>
    simp only [putZ, getZ, addZ, List.filter_nil, List.find?_nil, Option.map_none, Option.getD_none, insZ]
    rw [Int.zero_add, Int.emod_eq_of_lt hv.1 hv.2]
  | cons y r ih =>
    have h1 := List.pairwise_cons.1 h
    have ih := ih h1.2
    by_cases h2 : y.1 = x
    · have e1 : getZ (y :: r) x = y.2 := by rw [← h2]; exact getZ_at h (List.mem_cons_self ..)
      have e2 : (r.filter fun q => !decide (q.1 = x)) = r := by
        rw [List.filter_eq_self]
        intro q hq
        have := h1.1 q hq
        have e : q.1 ≠ x := by omega
        simpa using e
      have e3 : ∀ d, insZ (x, d) r = (x, d) :: r := by
        intro d
        cases r with
        | nil => rfl
        | cons z r =>
          have := h1.1 z (List.mem_cons_self ..)
          simp only [insZ]
          rw [if_pos (by omega)]
      simp only [addZ]
      rw [if_neg (by omega), if_pos h2, e1]
      unfold putZ
      rw [List.filter_cons_of_neg (by simpa using h2), e2, e3, h2]
    · have e1 : getZ (y :: r) x = getZ r x := by unfold getZ; rw [List.find?_cons_of_neg (by simpa using h2)]
      simp only [addZ]
      rw [e1]
      unfold putZ at ih ⊢
      rw [List.filter_cons_of_pos (by simpa using h2)]
      simp only [insZ]
      by_cases h3 : y.1 < x
      · rw [if_neg (by omega), if_pos h3, ih]
      · rw [if_pos (by omega), if_neg h3, if_neg h2]
        have e2 : (r.filter fun q => !decide (q.1 = x)) = r := by
          rw [List.filter_eq_self]
          intro q hq
          have := h1.1 q hq
          have e : q.1 ≠ x := by omega
          simpa using e
        have e4 : getZ r x = 0 := by
          unfold getZ
          rw [List.find?_eq_none.2 (fun q hq => ?_)]
          · rfl
          · have := h1.1 q hq
            have e : q.1 ≠ x := by omega
            simpa using e
        rw [e2, e4, Int.zero_add, Int.emod_eq_of_lt hv.1 hv.2]
theorem getZ_none {es : List (Int × Int)} {x : Int} (h : ∀ e ∈ es, e.1 ≠ x) : getZ es x = 0 := by
  unfold getZ
  rw [List.find?_eq_none.2 (fun q hq => by simpa using h q hq)]
  rfl
theorem putZ_new {p : Int} {x v : Int} (hv : 0 ≤ v ∧ v < p) {es : List (Int × Int)} (h : Asc es) (hx : ∀ e ∈ es, e.1 ≠ x) : putZ es x v = addZ p x v es := by
  rw [← putZ_add hv h, getZ_none hx, Int.zero_add, Int.emod_eq_of_lt hv.1 hv.2]
theorem addZ_asc {p : Int} {x v : Int} (hv : 0 ≤ v ∧ v < p) {es : List (Int × Int)} (h : Asc es) : Asc (addZ p x v es) := by
  rw [← putZ_add hv h]
  exact putZ_asc h _ _
theorem addZ_mem {p x v : Int} {es : List (Int × Int)} {e : Int × Int} (h : e ∈ addZ p x v es) : e.1 = x ∨ ∃ y ∈ es, y.1 = e.1 := by
  induction es with
  | nil => cases List.mem_singleton.1 h; exact .inl rfl
  | cons y r ih =>
    simp only [addZ] at h
    split at h
    · rcases List.mem_cons.1 h with rfl | h
      · exact .inr ⟨_, List.mem_cons_self .., rfl⟩
      · rcases ih h with h | ⟨z, hz, h⟩
        · exact .inl h
        · exact .inr ⟨z, List.mem_cons_of_mem _ hz, h⟩
    · split at h
      · rcases List.mem_cons.1 h with rfl | h
        · exact .inr ⟨y, List.mem_cons_self .., rfl⟩
        · exact .inr ⟨e, List.mem_cons_of_mem _ h, rfl⟩
      · rcases List.mem_cons.1 h with rfl | h
        · exact .inl rfl
        · exact .inr ⟨e, h, rfl⟩
theorem wfI_of {k : Int} (h0 : -9223372036854775808 ≤ k) (h1 : k < 9223372036854775808) : wfI k = true := by
  have h2 : IntKind.i64.min ≤ k ∧ k ≤ 9223372036854775807 := ⟨h0, by omega⟩
  simpa [wfI, Lit.wf] using h2
theorem mput_eq {es : List (Int × Int)} {k v : Int} (hl : es.length < 900) (hk : -9223372036854775808 ≤ k ∧ k < 9223372036854775808) (hv : -9223372036854775808 ≤ v ∧ v < 9223372036854775808) : mput es k v = some (putZ es k v) := by
  unfold mput
  rw [if_pos hl, if_pos (wfI_of hk.1 hk.2), if_pos (wfI_of hv.1 hv.2)]
end Go.Proofs.Ytjdannndpfkadaa.Pr
