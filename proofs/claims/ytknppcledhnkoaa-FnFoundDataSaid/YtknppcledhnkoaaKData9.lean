/- Texts of this session in one: what functions of the program compute, and plain facts of it, under the conditions that each theorem names. -/
import Derived.Laws.BitsLemmas
import Derived.Test.YtknppcledhnkoaaKData1
import Derived.Test.YtknppcledhnkoaaKData2
import Derived.Test.YtknppcledhnkoaaKData3
import Derived.Test.YtknppcledhnkoaaKData5
import Derived.Test.YtknppcledhnkoaaKData6
import Derived.Test.YtknppcledhnkoaaKData8
namespace Go.Proofs.Ytknppcledhnkoaa.Pr
/- Coefficients of a sum of polynomials. -/
open Go.RowKit Go.Proofs.YtknppcledhnkoaaW.PrintWords Go.Proofs.YtknppcledhnkoaaW.PrintLast Go.Proofs.YtknppcledhnkoaaW.PrintMore
theorem Et (p c : Int) (g : List Int) (d : Nat) : ∀ (i : Nat) (o : List Int),i + d ≤ o.length → ∀ j,(oG p c g d i o).getD j 0 = if i ≤ j∧j < i + d then (o.getD j 0 + c * g.getD j 0) % p else o.getD j 0:=by
  induction d with
  | zero =>
    intro i o h j
    rw [oG,if_neg (by omega)]
  | succ d ih =>
    intro i o h j
    rw [oG,ih (i + 1) _ (by rw [List.length_set];omega) j,CZ _ _ _ _ (by omega)]
    by_cases h1 : j = i
    · subst h1
      rw [if_neg (by omega),if_pos rfl,if_pos (by omega)]
    · rw [if_neg h1]
      by_cases h2 : i + 1 ≤ j∧j < i + 1 + d
      · rw [if_pos h2,if_pos (by omega)]
      · rw [if_neg h2,if_neg (by omega)]
theorem Eu (f : List Int) (n j : Nat) : (mX f n).getD j 0 = f.getD j 0:=by
  unfold mX
  simp only [List.getD_eq_getElem?_getD]
  by_cases h : j < f.length
  · rw [List.getElem?_append_left h]
  · rw [List.getElem?_append_right (by omega),List.getElem?_replicate,List.getElem?_eq_none (l:=f) (by omega)]
    split <;> rfl
theorem o8 {f : List Int} {j : Nat} (h : f.length ≤ j) : f.getD j 0 = 0:=by rw [List.getD_eq_getElem?_getD,List.getElem?_eq_none h];rfl
theorem EJ {p : Int} (hp : 0 < p) {f : List Int} (g : List Int) (k : Int) (hf : Nm p f) (j : Nat) : (nU p f g k).getD j 0 = (f.getD j 0 + k * g.getD j 0) % p:=by
  unfold nU
  rw [nI,Et p k g g.length 0 _ (by rw [nu f (by omega)];omega),Eu]
  by_cases h : j < g.length
  · rw [if_pos ⟨Nat.zero_le _,by omega⟩]
  · rw [if_neg (by omega),o8 (f:=g) (by omega),Int.mul_zero,Int.add_zero]
    have:=hf.oJ hp j
    exact (Int.emod_eq_of_lt this.1 this.2).symm
theorem D8 (l : List Int) : jr (jr l) = jr l:=vM (fun k=>by rw [nI])
/- Powers modulo p: what the program and the reference compute; no condition. -/
theorem yU {p : Int} (hp : Pm p) {x y : Int} (hx : 0 ≤ x∧x < p) (hy : 0 ≤ y∧y < p) : dZ.f p x y = some (x * y % p):=by
  unfold dZ.f
  have h:=rz hp hx.1 hx.2 hy.1 hy.2
  rw [bQ (by omega) (by omega),mQ hp];rfl
def p9 (p : Int) : Nat → Int → Nat → Int → Int
  | 0,_,_,o=>o
  | d + 1,x,k,o=>if k = 0 then o else p9 p d (x * x % p) (k / 2) (if k % 2 = 1 then o * x % p else o)
theorem F4 {p : Int} (hp : 0 < p) (d : Nat) : ∀ (x : Int) (k : Nat) (o : Int),0 ≤ o∧o < p → 0 ≤ p9 p d x k o∧p9 p d x k o < p:=by
  induction d with
  | zero=>intro x k o h;exact h
  | succ d ih =>
    intro x k o h
    rw [p9]
    split
    · exact h
    · refine ih _ _ _ ?_
      split
      · exact iD hp _
      · exact h
theorem half {k : Nat} (h : k < 4611686018427387904) : wrap64 (Int.tdiv (k : Int) 2) = ((k / 2 : Nat) : Int):=by
  rw [Int.tdiv_eq_ediv_of_nonneg (by omega),bQ (by omega) (by omega)];omega
theorem odd (k : Nat) : Int.tmod (k : Int) 2 = ((k % 2 : Nat) : Int):=by rw [iG (by omega)];omega
theorem Cz {p : Int} (hp : Pm p) (d : Nat) : ∀ (x : Int) (k : Nat) (o : Int),k ≤ d → k < 4611686018427387904 → 0 ≤ x∧x < p → 0 ≤ o∧o < p →
    Ev (fun n=>dG.l0 n p x (k : Int) o) (p9 p d x k o):=by
  induction d with
  | zero =>
    intro x k o hk hk2 hx ho
    refine Ev.step (fun n=>by rw [dG.l0]) ?_
    exact Ev.neg (by omega) (Ev.now _)
  | succ d ih =>
    intro x k o hk hk2 hx ho
    rw [p9]
    by_cases h : k = 0
    · rw [if_pos h]
      refine Ev.step (fun n=>by rw [dG.l0]) ?_
      exact Ev.neg (by omega) (Ev.now _)
    · rw [if_neg h]
      refine Ev.step (fun n=>by rw [dG.l0]) ?_
      refine Ev.pos (by omega) ?_
      rw [odd,half hk2]
      by_cases g : k % 2 = 1
      · rw [if_pos g]
        refine Ev.pos (by omega) (Ev.dx (yU hp ho hx) (Ev.dx (yU hp hx hx) ?_))
        exact ih _ _ _ (by omega) (by omega) (iD hp.pos _) (iD hp.pos _)
      · rw [if_neg g]
        refine Ev.neg (by omega) (Ev.dx (yU hp hx hx) ?_)
        exact ih _ _ _ (by omega) (by omega) (iD hp.pos _) ho
theorem CB {p : Int} (hp : Pm p) (d : Nat) : ∀ (x : Int) (k : Nat) (o : Int),k ≤ d → k < 4611686018427387904 → 0 ≤ x∧x < p → 0 ≤ o∧o < p →
    Ev (fun n=>eQ.l0 n p (k : Int) o x) (p9 p d x k o):=by
  induction d with
  | zero =>
    intro x k o hk hk2 hx ho
    refine Ev.step (fun n=>by rw [eQ.l0]) ?_
    refine Ev.neg (by omega) (Ev.neg hp.ne (Ev.jO ?_))
    rw [iG ho.1,Int.emod_eq_of_lt ho.1 ho.2];rfl
  | succ d ih =>
    intro x k o hk hk2 hx ho
    have h1:=rz hp hx.1 hx.2 hx.1 hx.2
    have h2:=rz hp ho.1 ho.2 hx.1 hx.2
    rw [p9]
    by_cases h : k = 0
    · rw [if_pos h]
      refine Ev.step (fun n=>by rw [eQ.l0]) ?_
      refine Ev.neg (by omega) (Ev.neg hp.ne (Ev.jO ?_))
      rw [iG ho.1,Int.emod_eq_of_lt ho.1 ho.2]
    · rw [if_neg h]
      refine Ev.step (fun n=>by rw [eQ.l0]) ?_
      refine Ev.pos (by omega) ?_
      rw [odd,half hk2,bQ (x:=x * x) (by omega) (by omega),bQ (x:=o * x) (by omega) (by omega),iG (a:=x * x) (by omega),iG (a:=o * x) (by omega)]
      by_cases g : k % 2 = 1
      · rw [if_pos g]
        refine Ev.pos (by omega) (Ev.neg hp.ne ?_)
        exact ih _ _ _ (by omega) (by omega) (iD hp.pos _) (iD hp.pos _)
      · rw [if_neg g]
        refine Ev.neg (by omega) (Ev.neg hp.ne ?_)
        exact ih _ _ _ (by omega) (by omega) (iD hp.pos _) ho
/-- x to the k-th power modulo p. -/
def uM (p x : Int) (k : Nat) : Int:=p9 p k x k 1
theorem Du {p : Int} (hp : Pm p) (x : Int) (k : Nat) : 0 ≤ uM p x k∧uM p x k < p:=F4 hp.pos _ _ _ _ (by have:=hp.two;omega)
theorem vQ {p : Int} (hp : Pm p) {x : Int} (hx : 0 ≤ x∧x < p) (k : Nat) (hk : k < 4611686018427387904) : Ev (fun n=>dG.f n p x (k : Int)) (uM p x k):=by
  have h2:=hp.two
  unfold dG.f uM
  refine Ev.dx (mQ hp _) ?_
  rw [Int.emod_eq_of_lt (by omega) (by omega)]
  exact Cz hp k x k 1 (Nat.le_refl _) hk hx (by omega)
theorem CE {p : Int} (hp : Pm p) {x : Int} (hx : 0 ≤ x∧x < p) (k : Nat) (hk : k < 4611686018427387904) : Ev (fun n=>eQ.f n p x (k : Int)) (uM p x k):=by
  have h2:=hp.two
  unfold eQ.f uM
  refine Ev.dx (a:=x) ?_ (CB hp k x k 1 (Nat.le_refl _) hk hx (by omega))
  unfold fB.f
  rw [if_neg hp.ne,yK hp,Int.emod_eq_of_lt hx.1 hx.2]
/- Inverses and quotients modulo p: what the program and the reference compute; no condition. -/
/-- The power p - 2. -/
def oV (p x : Int) : Int:=uM p x (p.toNat - 2)
theorem yA {p : Int} (hp : Pm p) (x : Int) : 0 ≤ oV p x∧oV p x < p:=Du hp _ _
theorem Dv {p : Int} (hp : Pm p) : wrap64 (p - 2) = ((p.toNat - 2 : Nat) : Int):=by
  have:=hp.two
  have:=hp.top
  rw [bQ (by omega) (by omega)]
  omega
theorem BX {p : Int} (hp : Pm p) {x : Int} (hx : 0 ≤ x∧x < p) : Ev (fun n=>fK.f n p x) (oV p x):=by
  have:=hp.top
  unfold fK.f oV
  rw [Dv hp]
  exact Ev.bind (vQ hp hx _ (by omega)) (Ev.now _)
theorem vO {p : Int} (hp : Pm p) {x : Int} (hx : 0 ≤ x∧x < p) : Ev (fun n=>gK.f n p x) (oV p x):=by
  have:=hp.top
  unfold gK.f oV
  rw [Dv hp]
  exact Ev.bind (CE hp hx _ (by omega)) (Ev.now _)
/- Determinants modulo p by elimination, as one plain function; and a matrix in memory: a block of slices, one block a row, all of them different. No condition beside the ones named. -/
open Go Go.RowKit Go.Proofs.YtknppcledhnkoaaW.PrintWords Go.Proofs.YtknppcledhnkoaaW.PrintLast Go.Proofs.YtknppcledhnkoaaW.PrintMore
/-! ### the plain function -/
/-- Square rows of numbers modulo p. -/
def Lv (p : Int) (rows : List (List Int)) : Prop:=(2 ≤ p∧p ≤ 10007)∧rows.length ≤ 1000∧∀ r ∈ rows,r.length = rows.length∧Nm p r
instance (p : Int) (rows : List (List Int)) : Decidable (Lv p rows):=by unfold Lv;infer_instance
/-! ### a matrix in memory -/
/-- e: the type of the rows' slices, e': of the numbers; the first m rows are there. -/
structure Mx (e e' : TypeId) (w : World) (b g n m : Nat) (β κ : Nat → Nat) (M : Nat → List Int) : Prop where
  out : w.heap[g]? = some (.cells ((List.range n).map fun i=>if i < m then Value.slice (some ⟨β i,0,none⟩) n (κ i) else Value.slice none 0 0).toArray e (0,0))
  bg : b ≤ g
  mn : m ≤ n
  len : ∀ i,i < m → (M i).length = n
  cap : ∀ i,i < m → n ≤ κ i
  bb : ∀ i,i < m → b ≤ β i
  row : ∀ i,i < m → ∃ cur : Array Value,w.heap[β i]? = some (.cells cur e' (0,0))∧∀ k,k < n → cur[k]? = some (.int .i64 ((M i).getD k 0))
  ne : ∀ i j,i < m → j < m → i ≠ j → β i ≠ β j
section
variable {e e' : TypeId} {w w1 : World} {b g n m : Nat} {β κ : Nat → Nat} {M : Nat → List Int}
theorem Mx.MC (h : Mx e e' w b g n m β κ M) (he : e ≠ e') {i : Nat} (hi : i < m) : β i ≠ g:=by
  intro eq
  obtain ⟨cur,hc,_⟩:=h.row i hi
  rw [eq,h.out] at hc
  injection hc with hc
  injection hc with _ hc
  exact he hc
theorem Mx.cell (h : Mx e e' w b g n m β κ M) {i k : Nat} (hi : i < m) (hk : k < n) : w.cell? ⟨β i,k,none⟩ = some (.int .i64 ((M i).getD k 0)):=by
  obtain ⟨cur,hc,hr⟩:=h.row i hi
  rw [aY hc k]
  exact hr k hk
theorem Mx.step (h : Mx e e' w b g n m β κ M) (hm : ∀ k,b ≤ k → k < w.heap.size → w1.heap[k]? = w.heap[k]?) : Mx e e' w1 b g n m β κ M :=
  ⟨(hm g h.bg (nQ h.out)).trans h.out,h.bg,h.mn,h.len,h.cap,h.bb,fun i hi=>by
    obtain ⟨cur,hc,hr⟩:=h.row i hi
    exact ⟨cur,(hm _ (h.bb i hi) (nQ hc)).trans hc,hr⟩,h.ne⟩
/-- A store into another block than the matrix's. -/
theorem Mx.far (h : Mx e e' w b g n m β κ M) {q : Nat} (hg : q ≠ g) (hq : ∀ i,i < m → q ≠ β i) (j : Nat) (u : Value) : Mx e e' (w.setCell ⟨q,j,none⟩ u) b g n m β κ M :=
  ⟨(Below.heap_setCell w ⟨q,j,none⟩ u g (Ne.symm hg)).trans h.out,h.bg,h.mn,h.len,h.cap,h.bb,fun i hi=>by
    obtain ⟨cur,hc,hr⟩:=h.row i hi
    exact ⟨cur,(Below.heap_setCell w ⟨q,j,none⟩ u _ (Ne.symm (hq i hi))).trans hc,hr⟩,h.ne⟩
/-- A number of a row is set. -/
theorem Mx.put (h : Mx e e' w b g n m β κ M) (he : e ≠ e') {i k : Nat} (hi : i < m) (hk : k < n) (x : Int) :
    Mx e e' (w.setCell ⟨β i,k,none⟩ (.int .i64 x)) b g n m β κ (fun t=>if t = i then (M i).set k x else M t):=by
  refine ⟨(Below.heap_setCell w ⟨β i,k,none⟩ _ g (Ne.symm (h.MC he hi))).trans h.out,h.bg,h.mn,fun t ht=>?_,h.cap,h.bb,fun t ht=>?_,h.ne⟩
  · by_cases c : t = i
    · rw [if_pos c,List.length_set];exact h.len i hi
    · rw [if_neg c];exact h.len t ht
  · by_cases c : t = i
    · subst c
      obtain ⟨cur,hc,hr⟩:=h.row t ht
      refine ⟨cur.setIfInBounds k (.int .i64 x),q8 hc k _,fun j hj=>?_⟩
      have hl:=h.len t ht
      rw [if_pos rfl]
      by_cases d : k = j
      · subst d
        have hs : k < cur.size:=by
          have:=hr k hk
          exact (Array.getElem?_eq_some_iff.1 this).1
        rw [Array.getElem?_setIfInBounds_self_of_lt hs,List.getD_eq_getElem?_getD,List.getElem?_set_self (by omega)];rfl
      · rw [Array.getElem?_setIfInBounds_ne d,hr j hj,List.getD_eq_getElem?_getD,List.getD_eq_getElem?_getD,List.getElem?_set_ne d]
    · obtain ⟨cur,hc,hr⟩:=h.row t ht
      refine ⟨cur,(Below.heap_setCell w ⟨β i,k,none⟩ _ _ (h.ne t i ht hi c)).trans hc,fun j hj=>?_⟩
      rw [if_neg c]
      exact hr j hj
end
/- Quotients modulo p in the program; no condition. -/

/- What the walk of the determinant leans on: a matrix as a list of rows that is read, its making, its cuts, the search for a pivot, and the callees in plain form. -/
theorem addr_add (g c j : Nat) : (⟨g,c,none⟩ : Addr).add j = ⟨g,c + j,none⟩:=by unfold Addr.add;split <;> simp_all
section
variable {e e' : TypeId} {w w1 : World} {b g n m : Nat} {β κ : Nat → Nat} {M : Nat → List Int}
/-- A row of one's own, its block laid open. -/
theorem F5 {e : Nat} {ok : Nat → Prop} {v : Value} {l : List Int} {base : Nat} (h : Kd.R (Kd.int .i64) e w base ok v l) (h0 : 0 < l.length) :
    ∃ q c cur,v = .slice (some ⟨q,0,none⟩) l.length c∧base ≤ q∧l.length ≤ c∧w.heap[q]? = some (.cells cur e (0,0))∧∀ k,k < l.length → cur[k]? = some (.int .i64 (l.getD k 0)):=by
  obtain ⟨q,c,rfl,hb,_,cur,hc⟩:=Kd.jF h h0
  obtain ⟨_,hl,hC⟩:=Kd.dN h
  refine ⟨q,c,cur,rfl,hb,hl,hc,fun k hk=>?_⟩
  obtain ⟨ad,ea,hx⟩:=Kd.dI hC (k : Int) (by omega) (by omega)
  cases ea
  rw [eT,add_plain,aY hc,fw] at hx
  exact hx
end
section
variable {P : Program} {ops : Array Oper} {Q : Exit → Act → World → Prop} {rest : List Oper} {oi : Oper} {a : Act} {w : World}
end
/-! ### two loads of which each may come up first -/
section
variable {P : Program} {ops : Array Oper} {Q : Exit → Act → World → Prop} {S : World → Prop} {ds : List Nat} {T : Bool × List (List Nat × List Nat)} {fuel : Nat} {l : Array Bool} {a a' ai aj : Act} {w : World} {oi oj : Oper} {vi vj : Value}
theorem ME (i j : Nat) (Ni Nj : Tmp) (li lj l' : Array Bool) (HT : au (gY .any ops = T)) (hS : S w) (h : bP P .any ops Q S ds fuel l' a' w)
    (hi : ops[i]? = some oi:=by rfl) (hj : ops[j]? = some oj:=by rfl) (hNi : oi.dst = some Ni:=by rfl) (hNj : oj.dst = some Nj:=by rfl)
    (hc : (nS T.2 l.toList == [i,j] && l.toList.set i true == li.toList && l.toList.set j true == lj.toList) = true:=by kernel_rfl)
    (hci : (nS T.2 li.toList == [j] && li.toList.set j true == l'.toList) = true:=by kernel_rfl) (hcj : (nS T.2 lj.toList == [i] && lj.toList.set i true == l'.toList) = true:=by kernel_rfl)
    (hdi : i ∉ ds:=by decide) (hdj : j ∉ ds:=by decide)
    (hwi : Region.wanted oi (yielded ops a.tmps) = true:=by rfl) (hwj : Region.wanted oj (yielded ops a.tmps) = true:=by rfl)
    (ri : (execOp a.eval oi).run P w = .ok (.value vi) w:=by (go_simp;with_reducible rfl)) (rj : (execOp a.eval oj).run P w = .ok (.value vj) w:=by (go_simp;with_reducible rfl))
    (hai : a.put (some Ni) vi = ai:=by (simp only [Act.put,ls,lz,ln,bZ,dO];rfl)) (haj : a.put (some Nj) vj = aj:=by (simp only [Act.put,ls,lz,ln,bZ,dO];rfl))
    (hwj' : Region.wanted oj (yielded ops ai.tmps) = true:=by rfl) (hwi' : Region.wanted oi (yielded ops aj.tmps) = true:=by rfl)
    (rj' : (execOp ai.eval oj).run P w = .ok (.value vj) w:=by first | (go_simp;done) | (go_simp;with_reducible rfl)) (ri' : (execOp aj.eval oi).run P w = .ok (.value vi) w:=by first | (go_simp;done) | (go_simp;with_reducible rfl))
    (h1 : ai.put (some Nj) vj = a':=by (simp only [Act.put,ls,lz,ln,bZ,dO];rfl)) (h2 : aj.put (some Ni) vi = a':=by first | (simp only [Act.put,ls,lz,ln,bZ,dO];done) | (simp only [Act.put,ls,lz,ln,bZ,dO];rfl)) : bP P .any ops Q S ds (fuel + 2) l a w:=by
  subst hai
  subst haj
  exact pE li lj hi hj hNi hNj (lW HT.out hc) hdi hdj (fun K hK=>qp hwi hNi ri (hK.out _ _ hS (fun _=>lo_ j Nj l' HT hS h hj hNj hci hdj hwj' rj' h1)))
    (fun K hK=>qp hwj hNj rj (hK.out _ _ hS (fun _=>lo_ i Ni l' HT hS h hi hNi hcj hdi hwi' ri' h2)))
end
/-! ### a row of which the first k numbers are done -/
/-! ### the search -/
/-! ### the callees -/
/- Powers modulo p are the rests of powers; no condition. -/
theorem sZ {p : Int} (a : Int) (m : Nat) : ∀ o : Int,(o * (a % p) ^ m) % p = (o * a ^ m) % p:=by
  induction m with
  | zero=>intro o;rw [Int.pow_zero,Int.pow_zero]
  | succ m ih =>
    intro o
    rw [Int.pow_succ,Int.pow_succ,Int.mul_comm ((a % p) ^ m),← Int.mul_assoc,ih,Int.mul_assoc,Int.mul_comm (a % p),← Int.mul_assoc,Int.mul_emod,Int.emod_emod,← Int.mul_emod,Int.mul_assoc]
theorem sq_pow (x : Int) (m : Nat) : (x * x) ^ m = x ^ (2 * m):=by
  induction m with
  | zero=>rw [Int.pow_zero,Nat.mul_zero,Int.pow_zero]
  | succ m ih=>rw [Int.pow_succ,ih,show 2 * (m + 1) = 2 * m + 1 + 1 from by omega,Int.pow_succ,Int.pow_succ,Int.mul_assoc]
theorem F6 {p : Int} (hp : 0 < p) (d : Nat) : ∀ (x : Int) (k : Nat) (o : Int),k ≤ d → 0 ≤ o∧o < p → p9 p d x k o = (o * x ^ k) % p:=by
  induction d with
  | zero =>
    intro x k o hk ho
    obtain rfl : k = 0:=by omega
    rw [p9,Int.pow_zero,Int.mul_one,Int.emod_eq_of_lt ho.1 ho.2]
  | succ d ih =>
    intro x k o hk ho
    rw [p9]
    by_cases h : k = 0
    · subst h;rw [if_pos rfl,Int.pow_zero,Int.mul_one,Int.emod_eq_of_lt ho.1 ho.2]
    · rw [if_neg h]
      by_cases g : k % 2 = 1
      · rw [if_pos g,ih _ _ _ (by omega) (iD hp _),sZ,sq_pow,Int.mul_emod,Int.emod_emod,← Int.mul_emod,Int.mul_assoc,Int.mul_comm x,← Int.pow_succ,show (2 * (k / 2)).succ = k from by omega]
      · rw [if_neg g,ih _ _ _ (by omega) ho,sZ,sq_pow,show 2 * (k / 2) = k from by omega]
theorem CQ {p : Int} (hp : Pm p) (x : Int) (k : Nat) : uM p x k = x ^ k % p:=by
  have:=hp.two
  rw [uM,F6 hp.pos k x k 1 (Nat.le_refl _) (by omega),Int.one_mul]
/- slices.Reverse of a row's end that is the call's own: the numbers from one place on stand in the other order afterwards. -/
set_option linter.unusedVariables false
set_option linter.unusedSimpArgs false
def rvs.T3 : Bool × List (List Nat × List Nat):=(true,[([],[]),([],[]),([],[]),([],[]),([],[]),([],[]),([4,5],[4,5]),([6],[6]),([],[]),([],[]),([8,9],[8,9]),([10],[10]),([0,1,0,1,4,5,6,7,11],[0,1]),([12,7,0,1,4,5,6,7,11],[7,12]),([2,3,0,1,2,3,4,5,6,7,8,9,10,11,12,13],[2,3]),([14,11,13,0,1,2,3,4,5,6,7,8,9,10,11,12,13],[11,14])])
def rvs.B3 : List Nat:=[0,0,0,0,0,0,48,112,0,0,768,1792,4083,8179,16383,32767]
theorem rvs.EF : gY .any (opsOf Try.f108 3) = rvs.T3:=by kernel_rfl
theorem rvs.zu : eu rvs.T3.2 rvs.B3 = true:=by kernel_rfl

/-- Behind t rounds: the outer t numbers on both sides of the row's end of length m stand in the other order. -/
def rvL (L : List Int) (s m t : Nat) : List Int:=(List.range L.length).map fun q=>if (s ≤ q∧q < s + m)∧(q < s + t ∨ s + m < q + 1 + t) then L.getD (2 * s + m - 1 - q) 0 else L.getD q 0
theorem mV (L : List Int) (s m t : Nat) : (rvL L s m t).length = L.length:=by simp [rvL]
theorem pY (L : List Int) (s m t : Nat) {q : Nat} (h : q < L.length) : (rvL L s m t).getD q 0 = if (s ≤ q∧q < s + m)∧(q < s + t ∨ s + m < q + 1 + t) then L.getD (2 * s + m - 1 - q) 0 else L.getD q 0:=by
  rw [rvL,List.getD_eq_getElem?_getD,List.getElem?_map,List.getElem?_range h];rfl
theorem F7 (L : List Int) (s m : Nat) : rvL L s m 0 = L:=by
  apply List.ext_getElem (mV _ _ _ _)
  intro i h1 h2
  have e:=pY L s m 0 h2
  rw [if_neg (by omega),List.getD_eq_getElem?_getD,List.getD_eq_getElem?_getD,List.getElem?_eq_getElem h1,List.getElem?_eq_getElem h2] at e
  exact e
theorem F8 (L : List Int) (s m t : Nat) (hm : s + m ≤ L.length) (ht : 2 * t + 1 < m) :
    ((rvL L s m t).set (s + t) ((rvL L s m t).getD (s + (m - 1 - t)) 0)).set (s + (m - 1 - t)) ((rvL L s m t).getD (s + t) 0) = rvL L s m (t + 1):=by
  rw [pY _ _ _ _ (show s + (m - 1 - t) < L.length by omega),pY _ _ _ _ (show s + t < L.length by omega)]
  apply List.ext_getElem (by rw [List.length_set,List.length_set,mV,mV])
  intro i h1 h2
  have hi : i < L.length:=by rwa [mV] at h2
  have e2 : (rvL L s m (t + 1))[i] = (rvL L s m (t + 1)).getD i 0:=by rw [List.getD_eq_getElem?_getD,List.getElem?_eq_getElem h2];rfl
  rw [e2,pY _ _ _ _ hi,List.getElem_set,List.getElem_set]
  by_cases c1 : s + (m - 1 - t) = i
  · rw [if_pos c1,if_neg (by omega),if_pos (by omega)]
    congr 1
    omega
  · rw [if_neg c1]
    by_cases c2 : s + t = i
    · rw [if_pos c2,if_neg (by omega),if_pos (by omega)]
      congr 1
      omega
    · rw [if_neg c2]
      have e3 : (rvL L s m t)[i]'(by rw [mV];exact hi) = (rvL L s m t).getD i 0:=by rw [List.getD_eq_getElem?_getD,List.getElem?_eq_getElem (by rw [mV];exact hi)];rfl
      rw [e3,pY _ _ _ _ hi]
      by_cases c3 : (s ≤ i∧i < s + m)∧(i < s + t ∨ s + m < i + 1 + t)
      · rw [if_pos c3,if_pos (by omega)]
      · rw [if_neg c3,if_neg (by omega)]
theorem Hy (L : List Int) (s m t : Nat) (h : m ≤ 2 * t + 1) : rvL L s m t = rvL L s m m:=by
  unfold rvL
  refine List.map_congr_left fun q _=>?_
  by_cases c : s ≤ q∧q < s + m
  · by_cases c2 : q < s + t ∨ s + m < q + 1 + t
    · rw [if_pos ⟨c,c2⟩,if_pos ⟨c,by omega⟩]
    · rw [if_neg (by omega),if_pos ⟨c,by omega⟩]
      congr 1
      omega
  · rw [if_neg (fun g=>c g.1),if_neg (fun g=>c g.1)]
set_option maxHeartbeats 8000000 in
set_option maxRecDepth 100000 in
theorem xV (w0 w : World) (g s n m c cc : Nat) (A : Addr) (L : List Int) (P0_ : Nat → Prop) (hB : Below w0.heap.size w0 w) (hR : Kd.R (Kd.int .i64) 2 w w0.heap.size P0_ (.slice (some ⟨g,0,none⟩) n c) L) (hl : L.length = n) (hn : n ≤ 1000000) (hm : s + m = n) (hA : 0 < m → A = ⟨g,s,none⟩) :
    Calls Try.prog 108 #[.slice (some A) m cc] w fun e w'=>e = .returned (.tuple #[])∧Kd.R (Kd.int .i64) 2 w' w0.heap.size P0_ (.slice (some ⟨g,0,none⟩) n c) (rvL L s m m)∧Below w0.heap.size w0 w'∧Kept w w' (fun k_=>P0_ k_):=by
  have hu:=Try.underlying24
  have HG : au (P0_ g):=⟨hR.1 g rfl⟩
  have HK:=au.mk (Kept.refl w (fun k_=>P0_ k_))
  have HB:=au.mk hB
  have HR:=au.mk (show Kd.R (Kd.int .i64) 2 w w0.heap.size P0_ (.slice (some ⟨g,0,none⟩) n c) (rvL L s m 0) by rw [F7];exact hR)
  clear hR hB
  go_enter Try.func108,Try.ntmps108
  have e0 : IntKind.i64.wrap ((m : Int) - 1) = (m : Int) - 1:=by rw [bZ,bQ (by omega) (by omega)]
  go_wp2
  go_loopg [2,3] (m + 1) (fun kq v2 v3 w'=>∃ t : Nat,v2 = .int .i64 (t : Int)∧v3 = .int .i64 ((m : Int) - 1 - (t : Int))∧au (kq + t = m + 1∧2 * t ≤ m + 1)∧au (Kd.R (Kd.int .i64) 2 w' w0.heap.size P0_ (.slice (some ⟨g,0,none⟩) n c) (rvL L s m t))∧au (Below w0.heap.size w0 w')∧au (Kept w w' (fun k_=>P0_ k_)))
  case atStart=>exact ⟨0,rfl,by simp,⟨by omega,by omega⟩,HR,HB,HK⟩
  case round =>
    clear HR HB HK
    obtain ⟨t,rfl,rfl,HT,HR,HB,HK⟩:=hrel
    by_cases ct : 2 * t + 1 < m
    · have c1 : decide ((t : Int) < (m : Int) - 1 - (t : Int)) = true:=decide_eq_true (by omega)
      have c2 : (t : Int) < (m : Int) - 1 - (t : Int):=by omega
      obtain rfl:=hA (by omega)
      obtain ⟨j,hj⟩ : ∃ j : Nat,j = m - 1 - t:=⟨_,rfl⟩
      have ej : (m : Int) - 1 - (t : Int) = (j : Int):=by omega
      rw [ej] at c1 c2 ⊢
      have q0 : (0 ≤ (t : Int)) = True:=eq_true (by omega)
      have q1 : ((t : Int) < (m : Int)) = True:=eq_true (by omega)
      have q2 : (0 ≤ (j : Int)) = True:=eq_true (by omega)
      have q3 : ((j : Int) < (m : Int)) = True:=eq_true (by omega)
      have q4 : (t < m) = True:=eq_true (by omega)
      have q5 : (j < m) = True:=eq_true (by omega)
      have e1 : IntKind.i64.wrap ((t : Int) + 1) = ((t + 1 : Nat) : Int):=by rw [bZ,bQ (by omega) (by omega)];omega
      have e2 : IntKind.i64.wrap ((j : Int) - 1) = (m : Int) - 1 - ((t + 1 : Nat) : Int):=by rw [bZ,bQ (by omega) (by omega)];omega
      have HJ:=au.mk (show j = m - 1 - t∧j < m from ⟨hj,by omega⟩)
      clear hj ej
      go_wp2
      refine dM (n:=16) (S:=fun _=>True) (ds:=[15]) (bl 16 0) (by kernel_rfl) rfl (by kernel_rfl) trivial (fun hHeld=>?_)
      refine bF rvs.EF rvs.zu (fun HT_ HW_=>?_)
      have n0_:=au.mk (Kd.jZ HR.out)
      have n1_:=au.mk (aK HB.out)
      have n2_:=au.mk HK.out.drew
      clear HR HB HK
      have HR:=n0_;have HB:=n1_;have HK:=n2_
      clear n0_ n1_ n2_
      generalize wr.drew = w1 at HR HB HK hHeld ⊢
      have hlen:=mV L s m t
      obtain ⟨g',c',cur,hv,hg,_,hh,hcur⟩:=F5 HR.out (by omega)
      injection hv with v1 v2 v3
      injection v1 with v1
      injection v1 with v1
      subst v1
      obtain ⟨x,hx⟩ : ∃ x,(rvL L s m t).getD (s + j) 0 = x:=⟨_,rfl⟩
      obtain ⟨y,hy⟩ : ∃ y,(rvL L s m t).getD (s + t) 0 = y:=⟨_,rfl⟩
      have hcj : w1.cell? ⟨g,s + j,none⟩ = some (.int .i64 x):=(aY hh (s + j)).trans (by rw [hcur (s + j) (by have:=HJ.out;omega),hx])
      have hct : w1.cell? ⟨g,s + t,none⟩ = some (.int .i64 y):=(aY hh (s + t)).trans (by rw [hcur (s + t) (by omega),hy])
      have hft:=kY hh (s + t)
      refine pu_ 0 14 (bl 16 1) HT_ ?_
      refine pu_ 1 15 (bl 16 3) HT_ ?_
      refine pu_ 2 16 (bl 16 7) HT_ ?_
      refine pu_ 3 17 (bl 16 15) HT_ ?_
      refine pu_ 4 18 (bl 16 31) HT_ ?_
      refine pu_ 5 19 (bl 16 63) HT_ ?_
      refine pu_ 6 20 (bl 16 127) HT_ ?_
      refine pu_ 8 22 (bl 16 383) HT_ ?_
      refine pu_ 9 23 (bl 16 895) HT_ ?_
      refine pu_ 10 24 (bl 16 1919) HT_ ?_
      refine ME 7 11 21 25 (bl 16 2047) (bl 16 3967) (bl 16 4095) HT_ hHeld ?_
      refine pu_ 12 26 (bl 16 8191) HT_ ?_
      refine on_ 13 none (bl 16 16383) HT_ (fun K hK=>?_)
      refine jA (w1:=w1.setCell ⟨g,s + t,none⟩ (.int .i64 x)) (by rfl) rfl (by first | (go_simp;done) | (go_simp;rfl)) ?_
      refine hK.out _ _ trivial (fun hHeld=>?_)
      clear hK K
      have hb1:=q8 hh (s + t) (.int .i64 x)
      have MF : (w1.setCell ⟨g,s + t,none⟩ (.int .i64 x)).cell? ⟨g,s + j,none⟩ = some (.int .i64 x):=by
        rw [aY hb1 (s + j),Array.getElem?_setIfInBounds_ne (by have:=HJ.out;omega),← aY hh (s + j)];exact hcj
      have MG:=kY hb1 (s + j)
      refine pu_ 14 27 (bl 16 32767) HT_ ?_
      refine lK (i:=15) (N:=none) (bl 16 65535) rfl rfl (jK HT_.out (by kernel_rfl)) (by decide) (fun K hK=>?_)
      refine jA (w1:=(w1.setCell ⟨g,s + t,none⟩ (.int .i64 x)).setCell ⟨g,s + j,none⟩ (.int .i64 y)) (by rfl) rfl (by first | (go_simp;done) | (go_simp;rfl)) ?_
      refine hK.out _ _ ?_
      clear hK K
      refine done_ (done_of HT_.out (by kernel_rfl)) ?_
      have hj:=HJ.out
      have hln : (rvL L s m t).length = n:=by rw [hlen,hl]
      have hp1:=(Kd.Dw (enc:=Value.int .i64) (h1:=fun _=>rfl) (show Kd.R (Kd.int .i64) 2 w1 w0.heap.size P0_ (.slice (some ⟨g,0,none⟩) (rvL L s m t).length c) (rvL L s m t) by rw [hln];exact HR.out) ((s + t : Nat) : Int) x).1
      have hp2:=(Kd.Dw (enc:=Value.int .i64) (h1:=fun _=>rfl) (by rw [List.length_set];exact hp1) ((s + j : Nat) : Int) y).1
      have est : ((rvL L s m t).set (s + t) x).set (s + j) y = rvL L s m (t + 1):=by
        rw [← hx,← hy,hj.1]
        exact F8 L s m t (by omega) ct
      have hp3 : Kd.R (Kd.int .i64) 2 ((w1.setCell ⟨g,s + t,none⟩ (.int .i64 x)).setCell ⟨g,s + j,none⟩ (.int .i64 y)) w0.heap.size P0_ (.slice (some ⟨g,0,none⟩) n c) (rvL L s m (t + 1)):=by
        rw [← est]
        have e : ((rvL L s m t).set ((s + t : Nat) : Int).toNat x).length = n:=by rw [List.length_set,hln]
        rw [e] at hp2
        exact hp2
      have n0_:=au.mk hp3
      have n1_:=au.mk ((HB.out.setCell (p:=⟨g,s + t,none⟩) hg (.int .i64 x)).setCell (p:=⟨g,s + j,none⟩) hg (.int .i64 y))
      have n2_:=au.mk ((HK.out.setCell (p:=⟨g,s + t,none⟩) (.inl HG.out) (.int .i64 x)).setCell (p:=⟨g,s + j,none⟩) (.inl HG.out) (.int .i64 y))
      clear HR HB HK hp1 hp2 hp3 MF MG hb1 hcj hct hft hh hcur hHeld
      have HR:=n0_;have HB:=n1_;have HK:=n2_
      clear n0_ n1_ n2_
      generalize (w1.setCell ⟨g,s + t,none⟩ (.int .i64 x)).setCell ⟨g,s + j,none⟩ (.int .i64 y) = w2 at HR HB HK ⊢
      clear hj
      go_wp2
      go_roundg (m - t)
      case measure=>have:=HT.out;omega
      case rel=>exact ⟨t + 1,rfl,rfl,⟨by omega,by omega⟩,HR,HB,HK⟩
    · have c1 : decide ((t : Int) < (m : Int) - 1 - (t : Int)) = false:=decide_eq_false (by omega)
      have c2 : ¬ (t : Int) < (m : Int) - 1 - (t : Int):=by omega
      go_wp2
      refine bodyPost_end (results_none rfl _ _ _) rfl ?_
      exact ⟨rfl,by rw [← Hy L s m t (by omega)];exact HR.out,HB.out,HK.out⟩
theorem Hz (L : List Int) : rvL L 0 L.length L.length = L.reverse:=by
  apply List.ext_getElem (by rw [mV,List.length_reverse])
  intro i h1 h2
  have hi : i < L.length:=by rwa [mV] at h1
  have e:=pY L 0 L.length L.length hi
  rw [if_pos (by omega),List.getD_eq_getElem?_getD,List.getElem?_eq_getElem h1,List.getD_eq_getElem?_getD,List.getElem?_eq_getElem (show 2 * 0 + L.length - 1 - i < L.length by omega)] at e
  rw [List.getElem_reverse]
  simp only [Option.getD_some] at e
  rw [e]
  congr 1
  omega
/-- slices.Reverse of a whole row. -/
def iE.f (l : List Int) : Option (List Int):=if 0 < l.length∧l.length ≤ 1000000 then some l.reverse else none
theorem iE.calls (P0_ : Nat → Prop) (u : Value) (l0 : List Int) (r : List Int) (w0 w : World) (hB : Below w0.heap.size w0 w) (ho0 : Kd.R (Kd.int .i64) 2 w w0.heap.size P0_ u l0) (h : iE.f l0 = some r) :
    Calls Try.prog 108 #[u] w fun e w'=>e = .returned (.tuple #[])∧Kd.R (Kd.int .i64) 2 w' w0.heap.size (fun k_=>(P0_ k_ ∨ w.heap.size ≤ k_)) u r∧Below w0.heap.size w0 w'∧Kept w w' (fun k_=>P0_ k_):=by
  unfold iE.f at h
  split at h
  case isFalse=>cases h
  rename_i hh
  obtain rfl:=Option.some.inj h
  obtain ⟨g,c,rfl,_⟩:=Kd.jF ho0 hh.1
  refine (xV w0 w g 0 l0.length l0.length c c ⟨g,0,none⟩ l0 P0_ hB ho0 rfl hh.2 (by omega) (fun _=>rfl)).mono ?_
  rintro e w' ⟨rfl,hR,hb,hk⟩
  rw [Hz] at hR
  exact ⟨rfl,Kd.aA hR (fun q hq=>.inl hq),hb,hk⟩
/-- slices.Reverse of all but a row's first number: the row afterwards. -/
def fC.f (l : List Int) : Option (List Int):=if 0 < l.length∧l.length ≤ 1000000 then some (rvL l 1 (l.length - 1) (l.length - 1)) else none
theorem fC.calls (P0_ : Nat → Prop) (g n c : Nat) (A : Addr) (A0 : Option Addr) (l0 : List Int) (r : List Int) (w0 w : World) (hB : Below w0.heap.size w0 w) (ho0 : Kd.R (Kd.int .i64) 2 w w0.heap.size P0_ (.slice A0 n c) l0) (hn : l0.length = n) (hA : 0 < n - 1 → A = ⟨g,1,none⟩) (hA0 : A0 = some ⟨g,0,none⟩) (h : fC.f l0 = some r) :
    Calls Try.prog 108 #[.slice (some A) (n - 1) (c - 1)] w fun e w'=>e = .returned (.tuple #[])∧Kd.R (Kd.int .i64) 2 w' w0.heap.size (fun k_=>(P0_ k_ ∨ w.heap.size ≤ k_)) (.slice A0 n c) r∧Below w0.heap.size w0 w'∧Kept w w' (fun k_=>P0_ k_):=by
  unfold fC.f at h
  split at h
  case isFalse=>cases h
  rename_i hh
  obtain rfl:=Option.some.inj h
  subst hn
  subst hA0
  refine (xV w0 w g 1 l0.length (l0.length - 1) c (c - 1) A l0 P0_ hB ho0 rfl hh.2 (by omega) hA).mono ?_
  rintro e w' ⟨rfl,hR,hb,hk⟩
  exact ⟨rfl,Kd.aA hR (fun q hq=>.inl hq),hb,hk⟩
theorem fC.pos {l r : List Int} (h : fC.f l = some r) : 0 < l.length:=by
  unfold fC.f at h
  split at h
  · rename_i hh;exact hh.1
  · cases h
/-- The cut behind a row's first number. -/
theorem AZ {P : Program} {t e : TypeId} (ht : P.underlying t = some (.slice e)) (hs : (P.info? e).map (fun i=>i.size) = some 1) {d e' base : Nat} {ok : Nat → Prop} {W : World} {A0 : Option Addr} {n c : Nat} {l : List Int} (hR : Kd.R (Kd.int .i64) e' W base ok (.slice A0 n c) l) (h0 : 0 < l.length) :
    ∃ (g : Nat) (A : Addr),A0 = some ⟨g,0,none⟩∧(0 < n - 1 → A = ⟨g,1,none⟩)∧∀ W',(Instr.slice t (.slice A0 n c) (some (.int .i64 1)) none none).run P W' = .ok (.slice (some A) (n - 1) (c - 1)) W':=by
  obtain ⟨g,c',hv,_⟩:=Kd.jF hR h0
  injection hv with v1 v2 v3
  subst v1
  have hnc:=(Kd.dN hR)
  have hln:=hnc.1
  have hle:=hnc.2.1
  refine ⟨g,if c = 1 then ⟨g,0,none⟩ else ⟨g,1,none⟩,rfl,fun h=>if_neg (by omega),fun W'=>?_⟩
  obtain ⟨i,hi,hsz⟩:=Option.map_eq_some_iff.1 hs
  have hel : P.elem t = e:=by simp [Program.elem,ht]
  have hu : P.underlying t = some (.slice (P.elem t)):=by rw [hel];exact ht
  rw [run_slice_l W' t _ n c hu .i64 1 (by omega) (by omega),hel]
  have hsz : i.size = 1:=hsz
  simp [sizeOf,typeInfo,hi,hsz,sliced,Result.andThen,addr_add]
  split <;> rfl
attribute [local go_sem] jV jW kR kT jv jw jX jY   -- for this text's walks alone
set_option maxHeartbeats 8000000
set_option maxRecDepth 100000
/-! ### fq: function 30 -/
def fq.f (k : Nat) (ca : Int) (da : List Int) (ea : List Int) : Option (Int × List Int × List Int × Int):=(bR.f k ca da ea true).bind fun ba=>(if ba = 0 then ((bB.f ca da ea).bind fun fa=>((bI.f ca da ea 0 fa).bind fun aa=>((iE.f aa.2.1).bind fun ga=>((fC.f aa.2.2).bind fun ha=>(some (aa.1,ga,ha,0)))))) else (some (0,([] : List Int),([] : List Int),ba)))
theorem fq.calls (k : Nat) (sa : Int) (Ba : Option Addr) (Ca : Nat) (oa : List Int) (Da : Option Addr) (Ea : Nat) (pa : List Int) (r1 : Int) (r2 : List Int) (r3 : List Int) (r4 : Int) (w : World) (Va : Kd.C (Kd.int .i64) w Ba oa.length oa) (Wa : oa.length ≤ Ca) (Xa : Kd.C (Kd.int .i64) w Da pa.length pa) (Ya : pa.length ≤ Ea) (H : fq.f k sa oa pa = some (r1,r2,r3,r4)) :
  Calls Try.prog 30 #[.agg #[.int .i64 sa,.slice Ba oa.length Ca,.slice Da pa.length Ea]] w fun e w'=>∃ Eb Fb : Value,e = .returned (.tuple #[.agg #[.int .i64 r1,Eb,Fb],.int .i64 r4])∧Kd.R (Kd.int .i64) 2 w' w.heap.size (fun k_=>ax k_ Fb) Eb r2∧Kd.R (Kd.int .i64) 2 w' w.heap.size (fun k_=>ax k_ Eb) Fb r3∧Below w.heap.size w w':=by
 have lL:=Try.underlying50;have La:=zA Va;have Ma:=zA Wa;clear Va Wa;have Na:=zA Xa;have Oa:=zA Ya;clear Xa Ya;have HB:=zA (Below.refl w.heap.size w);unfold fq.f at H;replace H:=bO H;obtain ⟨Za,A2,H⟩:=H;replace H:=gE H;obtain ⟨c3,Gb,Hb,H⟩|⟨c3,Gb,Hb,H⟩:=H
 ·simp only [Option.some.injEq,Prod.mk.injEq] at H;obtain ⟨rfl,rfl,rfl,rfl⟩:=H;go_enter Try.func30,Try.ntmps30;go_wp2_with (first | (refine bX 1 rfl #[.int .i64 sa,.slice Ba oa.length Ca,.slice Da pa.length Ea] 50 ?_;intro na tc hg aa hb;have Ra:=gq HB hg;have:=geI Ra;replace HB:=xH HB hb;clear hb hg) | ((with_reducible refine bz (N:=2) rfl ?_);refine bx 2 #[.int .i64 0,.slice none 0 0,.slice none 0 0] 50 ?_;intro Fa hg uc hbox hb;have ba:=zA (hbox);have Sa:=gq HB hg;have:=geI Sa;have Ta:=gq HB hg;replace HB:=xH HB hb;have za:=nL aa hg;have Aa:=nG aa hg;replace aa:=xB aa hb;have:=geI Ta;clear hb hbox hg;have Jb:=za.out;have Kb:=Aa.out;obtain ⟨_,_,_,_,_,_⟩:=b6 aa) | ((with_reducible refine av (f:=105) rfl ?_);refine gL (some 7) Try.func105 #[.agg #[.int .i64 sa,.slice Ba oa.length Ca,.slice Da pa.length Ea],.bool true] ?_;(with_reducible refine (bR.calls k sa _ _ oa _ _ pa true Za _ ?qa ?ra ?xa ?ya A2.out).mono ?_);(case qa=>exact cB La HB);(case ra=>exact Ma.out);(case xa=>exact cB Na HB);(case ya=>exact Oa.out);rintro e vc ⟨rfl,hb⟩;refine ⟨_,rfl,?_⟩;replace aa:=xB aa hb;replace ba:=xB ba hb;replace HB:=xH HB hb;obtain ⟨_,_,_,_,_,_⟩:=b6 ba));refine bodyPost_ret (dW rfl _ _ Fa 50 #[.int .i64 0,.slice none 0 0,.slice none 0 0] (0,0) _ rfl (by (repeat refine up1 ?_);apply pt3;(repeat refine up1 ?_);exact ba.out) Try.underlying50 rfl (by kernel_rfl)) rfl ?_;exact ⟨_,_,eX,nIl,nIl,uH HB.out⟩
 clear c3;replace H:=bO H;obtain ⟨Ja,A4,H⟩:=H;replace H:=bO H;obtain ⟨⟨ta,ka,ma⟩,A5,H⟩:=H;(try dsimp only at H);replace H:=bO H;obtain ⟨gb,A6,H⟩:=H;replace H:=bO H;obtain ⟨ib,A7,H⟩:=H;simp only [Option.some.injEq,Prod.mk.injEq] at H;obtain ⟨rfl,rfl,rfl,rfl⟩:=H;go_enter Try.func30,Try.ntmps30;(try go_wp2_with (first | (refine bX 1 rfl #[.int .i64 sa,.slice Ba oa.length Ca,.slice Da pa.length Ea] 50 ?_;intro na w8 hg aa hb;have Ra:=gq HB hg;have:=geI Ra;replace HB:=xH HB hb;clear hb hg) | ((with_reducible refine bz (N:=2) rfl ?_);refine bx 2 #[.int .i64 0,.slice none 0 0,.slice none 0 0] 50 ?_;intro Fa hg w9 hbox hb;have ba:=zA (hbox);have Sa:=gq HB hg;have:=geI Sa;have Ta:=gq HB hg;replace HB:=xH HB hb;have za:=nL aa hg;have Aa:=nG aa hg;replace aa:=xB aa hb;have:=geI Ta;clear hb hbox hg;have Lb:=za.out;have Mb:=Aa.out;obtain ⟨_,_,_,_,_,_⟩:=b6 aa) | ((with_reducible refine av (f:=105) rfl ?_);refine gL (some 7) Try.func105 #[.agg #[.int .i64 sa,.slice Ba oa.length Ca,.slice Da pa.length Ea],.bool true] ?_;(with_reducible refine (bR.calls k sa _ _ oa _ _ pa true Za _ ?qa ?ra ?xa ?ya A2.out).mono ?_);(case qa=>exact cB La HB);(case ra=>exact Ma.out);(case xa=>exact cB Na HB);(case ya=>exact Oa.out);rintro e nc ⟨rfl,hb⟩;refine ⟨_,rfl,?_⟩;replace aa:=xB aa hb;replace ba:=xB ba hb;replace HB:=xH HB hb;(try clear hb))));replace aa:=bD aa;replace ba:=bD ba;replace HB:=zA (aK HB.out);refine dM (n:=6) (S:=fun w'=>w'.cell? ⟨na,0,none⟩ = some (.int .i64 sa)∧w'.cell? ⟨na,1,none⟩ = some (.slice Ba oa.length Ca)∧w'.cell? ⟨na,2,none⟩ = some (.slice Da pa.length Ea)) (ds:=[]) (bl 6 0) (by kernel_rfl) rfl rfl ⟨bcu aa 0,bcu aa 1,bcu aa 2⟩ (fun hHeld=>?_);generalize nc.drew = wc at aa ba HB hHeld ⊢;refine kZ (i:=0) (N:=some 12) (v:=?_) (a':=?_) (bl 6 1) rfl rfl (by kernel_rfl) (fun _ _ _ h=>h) (Or.inl ⟨by rfl,?_⟩) hHeld ?_ ?_;rotate_left
 ·rintro w' ⟨s0,s1,s2⟩;go_simp;(with_reducible rfl)
 rotate_left
 ·simp only [Act.put,ls,lz,ln,bZ,dO];rfl
 refine kZ (i:=1) (N:=some 13) (v:=?_) (a':=?_) (bl 6 3) rfl rfl (by kernel_rfl) (fun _ _ _ h=>h) (Or.inl ⟨by rfl,?_⟩) hHeld ?_ ?_;rotate_left
 ·rintro w' ⟨s0,s1,s2⟩;go_simp;(with_reducible rfl)
 rotate_left
 ·simp only [Act.put,ls,lz,ln,bZ,dO];rfl
 refine kH (σ:=Value × Value × Nat) 1 (bl 6 31) (fun s_=>[(14,.int .i64 Ja),(15,.agg #[.int .i64 ta,s_.1,s_.2.1]),(5,.pointer (some ⟨s_.2.2,0,none⟩))]) (fun s_ w'=>(w'.cell? ⟨na,0,none⟩ = some (.int .i64 sa)∧w'.cell? ⟨na,1,none⟩ = some (.slice Ba oa.length Ca)∧w'.cell? ⟨na,2,none⟩ = some (.slice Da pa.length Ea))∧(Kd.R (Kd.int .i64) 2 w' w.heap.size (fun k_=>ax k_ s_.2.1) s_.1 ka)∧(Kd.R (Kd.int .i64) 2 w' w.heap.size (fun k_=>ax k_ s_.1) s_.2.1 ma)∧(w'.heap[na]? = some (.cells #[.int .i64 sa,.slice Ba oa.length Ca,.slice Da pa.length Ea] 50 (0,0)))∧(w'.heap[Fa]? = some (.cells #[.int .i64 0,.slice none 0 0,.slice none 0 0] 50 (0,0)))∧(w'.heap[s_.2.2]? = some (.cells #[.int .i64 0,.slice none 0 0,.slice none 0 0] 50 (0,0)))∧(w.heap.size ≤ s_.2.2)∧(w.heap.size ≤ s_.2.2)∧(na ≠ s_.2.2)∧(s_.2.2 ≠ na)∧(Fa ≠ s_.2.2)∧(s_.2.2 ≠ Fa)∧(Below w.heap.size w w')) ?_ ?_;rotate_left
 ·intro hCont;refine pE (i:=2) (j:=4) (Ni:=some 14) (Nj:=some 5) (bl 6 7) (bl 6 19) rfl rfl rfl rfl (by kernel_rfl) (by decide) (by decide) (fun K hK=>?_) (fun K hK=>?_)
  ·skip;refine gS Try.func107 #[.agg #[.int .i64 sa,.slice Ba oa.length Ca,.slice Da pa.length Ea]] ?_;(with_reducible refine (bB.calls sa _ _ oa _ _ pa Ja _ ?qa ?ra ?xa ?ya A4.out).mono ?_);(case qa=>exact cB La HB);(case ra=>exact Ma.out);(case xa=>exact cB Na HB);(case ya=>exact Oa.out);rintro e oc ⟨rfl,hb⟩;refine ⟨_,rfl,?_⟩;replace aa:=xB aa hb;replace ba:=xB ba hb;replace HB:=xH HB hb;refine hK.out _ _ ⟨bcu aa 0,bcu aa 1,bcu aa 2⟩ (fun hHeld=>?_);clear hK K;refine no_ 14 ?_;refine pE (i:=3) (j:=4) (Ni:=some 15) (Nj:=some 5) (bl 6 15) (bl 6 23) rfl rfl rfl rfl (by kernel_rfl) (by decide) (by decide) (fun K hK=>?_) (fun K hK=>?_)
   ·skip;refine gS Try.func106 #[.agg #[.int .i64 sa,.slice Ba oa.length Ca,.slice Da pa.length Ea],.int .i64 0,.int .i64 Ja] ?_;(with_reducible refine (bI.calls sa _ _ oa _ _ pa 0 Ja ta ka ma _ ?qa ?ra ?xa ?ya A5.out).mono ?_);(case qa=>exact cB La HB);(case ra=>exact Ma.out);(case xa=>exact cB Na HB);(case ya=>exact Oa.out);rintro e Nb ⟨Pa,Qa,rfl,jb,kb,hb⟩;refine ⟨_,rfl,?_⟩;have ja:=lZ jb HB;have ia:=lZ kb HB;replace aa:=xB aa hb;replace ba:=xB ba hb;replace HB:=xH HB hb;refine hK.out _ _ ⟨bcu aa 0,bcu aa 1,bcu aa 2⟩ (fun hHeld=>?_);clear hK K;refine no_ 15 ?_;refine ow (i:=4) (N:=some 5) (bl 6 31) rfl rfl (by kernel_rfl) (by decide) (fun K hK=>?_);refine iF ?hg (N:=5) ?hd (cs:=#[.int .i64 0,.slice none 0 0,.slice none 0 0]) (t:=50) ?hr ?_;(case hd=>rfl);(case hg=>rfl);(case hr=>first | (go_simp;done) | (go_simp;rfl));intro da hg Ob hbox hb;replace ja:=xR ja hb;replace ia:=xR ia hb;have ea:=zA (hbox);have ua:=gq HB hg;have:=geI ua;have wa:=gq HB hg;replace HB:=xH HB hb;have ca:=nL aa hg;have ga:=nG aa hg;replace aa:=xB aa hb;have fa:=nL ba hg;have ha:=nG ba hg;replace ba:=xB ba hb;have:=geI wa;clear hb hbox hg;refine hK.out _ _ ⟨bcu aa 0,bcu aa 1,bcu aa 2⟩ (fun hHeld=>?_);clear hK K;refine no_ 5 ?_;exact eG (by simp only [bC,Act.put,ls,lz,ln]) (hCont (Pa,Qa,da) _ ⟨hHeld,(uR ja.out),(uR ia.out),(uB aa.out),(uB ba.out),(uB ea.out),ua.out,wa.out,ca.out,ga.out,fa.out,ha.out,(uH HB.out)⟩)
   ·skip;refine iF ?hg (N:=5) ?hd (cs:=#[.int .i64 0,.slice none 0 0,.slice none 0 0]) (t:=50) ?hr ?_;(case hd=>rfl);(case hg=>rfl);(case hr=>first | (go_simp;done) | (go_simp;rfl));intro da hg Nb hbox hb;have ea:=zA (hbox);have ua:=gq HB hg;have:=geI ua;have wa:=gq HB hg;replace HB:=xH HB hb;have ca:=nL aa hg;have ga:=nG aa hg;replace aa:=xB aa hb;have fa:=nL ba hg;have ha:=nG ba hg;replace ba:=xB ba hb;have:=geI wa;clear hb hbox hg;refine hK.out _ _ ⟨bcu aa 0,bcu aa 1,bcu aa 2⟩ (fun hHeld=>?_);clear hK K;refine no_ 5 ?_;refine ow (i:=3) (N:=some 15) (bl 6 31) rfl rfl (by kernel_rfl) (by decide) (fun K hK=>?_);refine gS Try.func106 #[.agg #[.int .i64 sa,.slice Ba oa.length Ca,.slice Da pa.length Ea],.int .i64 0,.int .i64 Ja] ?_;(with_reducible refine (bI.calls sa _ _ oa _ _ pa 0 Ja ta ka ma _ ?qa ?ra ?xa ?ya A5.out).mono ?_);(case qa=>exact cB La HB);(case ra=>exact Ma.out);(case xa=>exact cB Na HB);(case ya=>exact Oa.out);rintro e Ob ⟨Pa,Qa,rfl,jb,kb,hb⟩;refine ⟨_,rfl,?_⟩;have ja:=lZ jb HB;have ia:=lZ kb HB;replace aa:=xB aa hb;replace ba:=xB ba hb;replace ea:=xB ea hb;replace HB:=xH HB hb;refine hK.out _ _ ⟨bcu aa 0,bcu aa 1,bcu aa 2⟩ (fun hHeld=>?_);clear hK K;refine no_ 15 ?_;exact eG (by simp only [bC,Act.put,ls,lz,ln]) (hCont (Pa,Qa,da) _ ⟨hHeld,(uR ja.out),(uR ia.out),(uB aa.out),(uB ba.out),(uB ea.out),ua.out,wa.out,ca.out,ga.out,fa.out,ha.out,(uH HB.out)⟩)
  ·skip;refine iF ?hg (N:=5) ?hd (cs:=#[.int .i64 0,.slice none 0 0,.slice none 0 0]) (t:=50) ?hr ?_;(case hd=>rfl);(case hg=>rfl);(case hr=>first | (go_simp;done) | (go_simp;rfl));intro da hg oc hbox hb;have ea:=zA (hbox);have ua:=gq HB hg;have:=geI ua;have wa:=gq HB hg;replace HB:=xH HB hb;have ca:=nL aa hg;have ga:=nG aa hg;replace aa:=xB aa hb;have fa:=nL ba hg;have ha:=nG ba hg;replace ba:=xB ba hb;have:=geI wa;clear hb hbox hg;refine hK.out _ _ ⟨bcu aa 0,bcu aa 1,bcu aa 2⟩ (fun hHeld=>?_);clear hK K;refine no_ 5 ?_;refine ow (i:=2) (N:=some 14) (bl 6 23) rfl rfl (by kernel_rfl) (by decide) (fun K hK=>?_);refine gS Try.func107 #[.agg #[.int .i64 sa,.slice Ba oa.length Ca,.slice Da pa.length Ea]] ?_;(with_reducible refine (bB.calls sa _ _ oa _ _ pa Ja _ ?qa ?ra ?xa ?ya A4.out).mono ?_);(case qa=>exact cB La HB);(case ra=>exact Ma.out);(case xa=>exact cB Na HB);(case ya=>exact Oa.out);rintro e Nb ⟨rfl,hb⟩;refine ⟨_,rfl,?_⟩;replace aa:=xB aa hb;replace ba:=xB ba hb;replace ea:=xB ea hb;replace HB:=xH HB hb;refine hK.out _ _ ⟨bcu aa 0,bcu aa 1,bcu aa 2⟩ (fun hHeld=>?_);clear hK K;refine no_ 14 ?_;refine ow (i:=3) (N:=some 15) (bl 6 31) rfl rfl (by kernel_rfl) (by decide) (fun K hK=>?_);refine gS Try.func106 #[.agg #[.int .i64 sa,.slice Ba oa.length Ca,.slice Da pa.length Ea],.int .i64 0,.int .i64 Ja] ?_;(with_reducible refine (bI.calls sa _ _ oa _ _ pa 0 Ja ta ka ma _ ?qa ?ra ?xa ?ya A5.out).mono ?_);(case qa=>exact cB La HB);(case ra=>exact Ma.out);(case xa=>exact cB Na HB);(case ya=>exact Oa.out);rintro e Ob ⟨Pa,Qa,rfl,jb,kb,hb⟩;refine ⟨_,rfl,?_⟩;have ja:=lZ jb HB;have ia:=lZ kb HB;replace aa:=xB aa hb;replace ba:=xB ba hb;replace ea:=xB ea hb;replace HB:=xH HB hb;refine hK.out _ _ ⟨bcu aa 0,bcu aa 1,bcu aa 2⟩ (fun hHeld=>?_);clear hK K;refine no_ 15 ?_;exact eG (by simp only [bC,Act.put,ls,lz,ln]) (hCont (Pa,Qa,da) _ ⟨hHeld,(uR ja.out),(uR ia.out),(uB aa.out),(uB ba.out),(uB ea.out),ua.out,wa.out,ca.out,ga.out,fa.out,ha.out,(uH HB.out)⟩)
 rintro ⟨Pa,Qa,da⟩ Ua ⟨hS_,Pb,Qb,Rb,Sb,Tb,Ub,Vb,Wb,Xb,Yb,mb,nb⟩;have ab:=zA Pb;have bb:=zA Qb;have cb:=zA Rb;have db:=zA Sb;have eb:=zA Tb;have fb:=zA Ub;have Zb:=zA Vb;have ac:=zA Wb;have cc:=zA Xb;have dc:=zA Yb;have ob:=zA mb;have pb:=zA nb;clear aa ba HB;clear Pb Qb Rb Sb Tb Ub Vb Wb Xb Yb mb nb;have ja:=ab;have ia:=bb;have aa:=cb;have ba:=db;have ea:=eb;have ua:=fb;have:=geI ua;have wa:=Zb;have:=geI wa;have ca:=ac;have ga:=cc;have fa:=dc;have ha:=ob;have HB:=pb;clear ab bb cb db eb fb Zb ac cc dc ob pb;have hHeld : Ua.cell? ⟨na,0,none⟩ = some (.int .i64 sa)∧Ua.cell? ⟨na,1,none⟩ = some (.slice Ba oa.length Ca)∧Ua.cell? ⟨na,2,none⟩ = some (.slice Da pa.length Ea):=hS_;obtain ⟨Ga,Ha,qb⟩:=Kd.aG ja.out;(first | subst qb | (obtain ⟨f4_,f5_⟩:=sq qb;subst f4_;subst f5_));obtain ⟨Ka,Ia,rb⟩:=Kd.aG ia.out;(first | subst rb | (obtain ⟨f4_,f5_⟩:=sq rb;subst f4_;subst f5_));refine eG (a':=?_) ?_ ?_;rotate_left
 ·simp only [bC,Act.put,ls,lz,ln];rfl
 refine ow (i:=5) (N:=none) (bl 6 63) rfl rfl (by kernel_rfl) (by decide) (fun K hK=>?_);have pc : Ua.cell? ⟨da,0,none⟩ = some (.int .i64 0):=(aY ea.out 0).trans rfl;have ec:=bf ea 0;have sb:=ca.out;have tb:=fa.out;have ub:=ga.out;have vb:=ha.out;have qc : Ua.cell? ⟨da,1,none⟩ = some (.slice none 0 0):=(aY ea.out 1).trans rfl;have fc:=bf ea 1;have wb:=ca.out;have xb:=fa.out;have yb:=ga.out;have zb:=ha.out;have sc : Ua.cell? ⟨da,2,none⟩ = some (.slice none 0 0):=(aY ea.out 2).trans rfl;have gc:=bf ea 2;have Ab:=ca.out;have Bb:=fa.out;have Cb:=ga.out;have Db:=ha.out;refine jA (w1:=?_) (by rfl) rfl ?_ ?_;rotate_left
 ·go_simp;rfl
 refine hK.out _ _ ⟨((cell_far (p:=⟨da,_,none⟩) ca.out _).trans (((cell_far (p:=⟨da,_,none⟩) ca.out _).trans (((cell_far (p:=⟨da,_,none⟩) ca.out _).trans (hHeld.1)))))),((cell_far (p:=⟨da,_,none⟩) ca.out _).trans (((cell_far (p:=⟨da,_,none⟩) ca.out _).trans (((cell_far (p:=⟨da,_,none⟩) ca.out _).trans (hHeld.2.1)))))),((cell_far (p:=⟨da,_,none⟩) ca.out _).trans (((cell_far (p:=⟨da,_,none⟩) ca.out _).trans (((cell_far (p:=⟨da,_,none⟩) ca.out _).trans (hHeld.2.2))))))⟩ (fun hHeld=>?_);clear hK K;refine done_ (by kernel_rfl) ?_;have ab:=zA (rf3 ja ea (by decide) (.int .i64 ta) (.slice Ga ka.length Ha) (.slice Ka ma.length Ia));have bb:=zA (rf3 ia ea (by decide) (.int .i64 ta) (.slice Ga ka.length Ha) (.slice Ka ma.length Ia));have cb : au ((((Ua.setCell ⟨da,0,none⟩ (.int .i64 ta)).setCell ⟨da,1,none⟩ (.slice Ga ka.length Ha)).setCell ⟨da,2,none⟩ (.slice Ka ma.length Ia)).heap[na]? = some (.cells #[.int .i64 sa,.slice Ba oa.length Ca,.slice Da pa.length Ea] 50 (0,0))):=⟨by (repeat refine up1 ?_);refine bk3 ?_ ca;(repeat refine up1 ?_);exact aa.out⟩;have db : au ((((Ua.setCell ⟨da,0,none⟩ (.int .i64 ta)).setCell ⟨da,1,none⟩ (.slice Ga ka.length Ha)).setCell ⟨da,2,none⟩ (.slice Ka ma.length Ia)).heap[Fa]? = some (.cells #[.int .i64 0,.slice none 0 0,.slice none 0 0] 50 (0,0))):=⟨by (repeat refine up1 ?_);refine bk3 ?_ fa;(repeat refine up1 ?_);exact ba.out⟩;have eb : au ((((Ua.setCell ⟨da,0,none⟩ (.int .i64 ta)).setCell ⟨da,1,none⟩ (.slice Ga ka.length Ha)).setCell ⟨da,2,none⟩ (.slice Ka ma.length Ia)).heap[da]? = some (.cells #[.int .i64 ta,.slice Ga ka.length Ha,.slice Ka ma.length Ia] 50 (0,0))):=⟨by (repeat refine up1 ?_);apply pt3;(repeat refine up1 ?_);exact ea.out⟩;have fb:=bh3 HB da (.int .i64 ta) (.slice Ga ka.length Ha) (.slice Ka ma.length Ia);generalize (((Ua.setCell ⟨da,0,none⟩ (.int .i64 ta)).setCell ⟨da,1,none⟩ (.slice Ga ka.length Ha)).setCell ⟨da,2,none⟩ (.slice Ka ma.length Ia)) = xc at ab bb cb db eb fb ⊢;have ja:=ab;have ia:=bb;have aa:=cb;have ba:=db;have ea:=eb;have HB:=fb;clear ab bb cb db eb fb;have ic:=ga.out;have jc:=ca.out;have kc:=ha.out;have mc:=fa.out;obtain ⟨_,_,_,_,_,_⟩:=b6 ea;obtain ⟨gz,ZA,hAz,hZA,hcutZ⟩:=AZ (P:=Try.prog) Try.underlying24 (by kernel_rfl) (d:=0) ia.out (fC.pos A7.out);have HAZ:=zA hAz;have HZA:=zA hZA;clear hAz hZA;(try go_wp2_with (first | ((with_reducible refine av (f:=108) rfl ?_);refine gL (some 18) Try.func108 #[.slice Ga ka.length Ha] ?_;(with_reducible refine (iE.calls (fun k_=>some k_ = (.slice Ga ka.length Ha : Value).ownBlock) (.slice Ga ka.length Ha) ka gb w _ ?qa ?ra A6.out).mono ?_);(case qa=>exact uH HB.out);(case ra=>exact Kd.lw rfl ja.out);rintro e yc ⟨rfl,Ib,hb,hkp⟩;refine ⟨_,rfl,?_⟩;replace aa:=zA (nH (uB aa.out) hkp (fun hs_=>(fun e_=>(Kd.jC ja.out aa.out (by decide)) e_) hs_));replace ba:=zA (nH (uB ba.out) hkp (fun hs_=>(fun e_=>(Kd.jC ja.out ba.out (by decide)) e_) hs_));replace ia:=zA (Kd.aA (ok':=fun k_=>ax k_ (.slice Ga ka.length Ha)) (Kd.qX (ia.out) hkp (fun k_ hk_ hs_=>(hk_) hs_)) (fun k_ hk_=>hk_.1));replace ea:=zA (nH (uB ea.out) hkp (fun hs_=>(fun e_=>(Kd.jC ja.out ea.out (by decide)) e_) hs_));replace ja:=zA (Kd.Fq rfl Ib (fun k_ e_=>ja.out.1 k_ e_));replace HB:=zA (hb);obtain ⟨_,_,_,_,_,_⟩:=b6 ea) | ((with_reducible refine av (f:=108) rfl ?_);refine gL (some 22) Try.func108 #[.slice (some ZA) (ma.length - 1) (Ia - 1)] ?_;(with_reducible refine (fC.calls (fun k_=>some k_ = (.slice Ka ma.length Ia : Value).ownBlock) gz ma.length Ia ZA Ka ma ib w _ ?qa ?ra rfl HZA.out HAZ.out A7.out).mono ?_);(case qa=>exact uH HB.out);(case ra=>exact Kd.lw rfl ia.out);rintro e zc ⟨rfl,Ib,hb,hkp⟩;refine ⟨_,rfl,?_⟩;replace aa:=zA (nH (uB aa.out) hkp (fun hs_=>(fun e_=>(Kd.jC ia.out aa.out (by decide)) e_) hs_));replace ba:=zA (nH (uB ba.out) hkp (fun hs_=>(fun e_=>(Kd.jC ia.out ba.out (by decide)) e_) hs_));replace ja:=zA (Kd.aA (ok':=fun k_=>ax k_ (.slice Ka ma.length Ia)) (Kd.qX (ja.out) hkp (fun k_ hk_ hs_=>(hk_) hs_)) (fun k_ hk_=>hk_.1));replace ea:=zA (nH (uB ea.out) hkp (fun hs_=>(fun e_=>(Kd.jC ia.out ea.out (by decide)) e_) hs_));replace ia:=zA (Kd.Fq rfl Ib (fun k_ e_=>ia.out.1 k_ e_));replace HB:=zA (hb);obtain ⟨_,_,_,_,_,_⟩:=b6 ea;obtain ⟨_,_,_,_,_,_⟩:=b6 ba)));refine bodyPost_ret (dW rfl _ _ Fa 50 #[.int .i64 ta,.slice Ga ka.length Ha,.slice Ka ma.length Ia] (0,0) _ rfl (by (repeat refine up1 ?_);apply pt3;(repeat refine up1 ?_);exact ba.out) Try.underlying50 rfl (by kernel_rfl)) rfl ?_;exact ⟨_,_,eX,uR (rf3 ja ba (by decide) (.int .i64 ta) (.slice Ga ka.length Ha) (.slice Ka ma.length Ia)),uR (rf3 ia ba (by decide) (.int .i64 ta) (.slice Ga ka.length Ha) (.slice Ka ma.length Ia)),uH HB.out⟩
/- ReverseJacobi: for all arguments the program and the reference come to one value; no condition. -/
theorem kP {l : List Int} {i : Nat} (h : i < l.length) : l.getD i 0 = l[i]:=by rw [List.getD_eq_getElem?_getD,List.getElem?_eq_getElem h];rfl
theorem F9 (b : List Int) (h : 0 < b.length) : rvL b 1 (b.length - 1) (b.length - 1) = b.getD 0 0 :: (b.drop 1).reverse:=by
  apply List.ext_getElem (by rw [mV,List.length_cons,List.length_reverse,List.length_drop];omega)
  intro i h1 h2
  have hi : i < b.length:=by rwa [mV] at h1
  rw [← kP h1,pY _ _ _ _ hi]
  cases i with
  | zero=>rw [if_neg (by omega)];rfl
  | succ j =>
    rw [if_pos (by omega),List.getElem_cons_succ,List.getElem_reverse,List.getElem_drop,kP (by omega)]
    congr 1
    rw [List.length_drop]
    omega
theorem rW {l : List Int} {d : Nat} (h : d < l.length) : l.drop d = l.getD d 0 :: l.drop (d + 1):=by
  rw [kP h,List.drop_eq_getElem_cons h]
theorem Bp (p : Int) (a b : List Int) (hab : b.length = a.length) (ha : a.length ≤ 12) (d : Nat) : d ≤ a.length →
    Ev (fun n=>aJ.l0 n ((d : Int) - 1) p a b p (a.drop d).reverse (b.getD 0 0 :: (b.drop (max d 1)).reverse)) (p,a.reverse,b.getD 0 0 :: (b.drop 1).reverse,0):=by
  induction d with
  | zero =>
    intro _
    refine Ev.step (fun n=>by rw [aJ.l0]) ?_
    exact Ev.neg (by omega) (Ev.now _)
  | succ d ih =>
    intro hd
    have e0 : ((d + 1 : Nat) : Int) - 1 = (d : Int):=by omega
    have ew : wrap64 ((d : Int) - 1) = (d : Int) - 1:=bQ (by omega) (by omega)
    have ea : (a.drop (d + 1)).reverse ++ [a.getD d 0] = (a.drop d).reverse:=by rw [rW (show d < a.length by omega),List.reverse_cons]
    have la : (a.drop (d + 1)).reverse.length ≤ 12:=by rw [List.length_reverse,List.length_drop];omega
    have lb : (b.getD 0 0 :: (b.drop (max (d + 1) 1)).reverse).length ≤ 13:=by rw [List.length_cons,List.length_reverse,List.length_drop];omega
    refine Ev.step (fun n=>by rw [aJ.l0]) ?_
    rw [e0,ew,fw,fw,ea]
    refine Ev.pos (by omega) (Ev.pos (by omega) (Ev.pos (by omega) (Ev.pos (by omega) (Ev.dx rfl ?_))))
    have:=ih (by omega)
    by_cases h0 : 0 < d
    · have eb : (b.getD 0 0 :: (b.drop (max (d + 1) 1)).reverse) ++ [b.getD d 0] = b.getD 0 0 :: (b.drop (max d 1)).reverse:=by
        rw [show max (d + 1) 1 = d + 1 from by omega,show max d 1 = d from by omega,rW (show d < b.length by omega),List.reverse_cons,List.cons_append]
      refine Ev.pos (by omega) (Ev.pos (by omega) (Ev.pos (by omega) ?_))
      rw [eb]
      exact this
    · refine Ev.neg (by omega) ?_
      rw [show max (d + 1) 1 = max d 1 from by omega]
      exact this
theorem oP (p : Int) (a b : List Int) (ha : Sm a.length) (hb : Sm b.length) :
    ∃ v : Int × List Int × List Int × Int,Ev (fun n=>aJ.f n p a b) v∧Ev (fun n=>fq.f n p a b) v∧(Sm v.2.1.length∧Sm v.2.2.1.length)∧v = (if iI p a b = true then (p,a.reverse,b.getD 0 0 :: (b.drop 1).reverse,0) else (0,[],[],1)):=by
  have hs:=oF p a b ha hb
  have hi:=kK p a b true ha hb
  by_cases h : iI p a b = true
  · have hall:=iI.all h
    have hc : oW p a b true = 0:=by unfold oW;rw [if_pos h,if_pos rfl]
    rw [h] at hs
    rw [hc] at hi
    refine ⟨(p,a.reverse,b.getD 0 0 :: (b.drop 1).reverse,0),?_,?_,⟨by rw [List.length_reverse];unfold Sm;omega,by rw [List.length_cons,List.length_reverse,List.length_drop];unfold Sm;omega⟩,by rw [if_pos h]⟩
    · unfold aJ.f
      have hw : wrap64 ((a.length : Int) - 1) = (a.length : Int) - 1:=bQ (by omega) (by omega)
      have hl:=Bp p a b hall.1.2 (by omega) a.length (Nat.le_refl _)
      rw [List.drop_length,show max a.length 1 = b.length from by omega,List.drop_length] at hl
      rw [hw]
      exact Ev.bind hs (Ev.pos rfl (Ev.pos (by omega) hl))
    · unfold fq.f
      refine Ev.bind hi (Ev.pos rfl (Ev.dx (size_eq p a b) (Ev.dx (a:=(p,a,b)) ?_ (Ev.dx (a:=a.reverse) ?_ (Ev.dx (a:=b.getD 0 0 :: (b.drop 1).reverse) ?_ (Ev.now _))))))
      · unfold bI.f
        have hcl : ∀ l : List Int,l.length ≤ 12 → dY.f l = some l:=fun l hl=>by unfold dY.f;rw [if_pos (by omega)]
        rw [if_pos (by omega),if_pos (by omega),if_pos (by omega),show ((a.length : Int)).toNat = a.length from rfl,List.take_length,show b.take a.length = b from List.take_of_length_le (by omega)]
        show (dY.f a).bind _ = _
        rw [hcl a (by omega),Option.bind_some,if_pos (by omega)]
        show (dY.f b).bind _ = _
        rw [hcl b (by omega)];rfl
      · show iE.f a = _
        unfold iE.f
        rw [if_pos ⟨by omega,by omega⟩]
      · show fC.f b = _
        unfold fC.f
        rw [if_pos ⟨by omega,by omega⟩,F9 b (by omega)]
  · have hc : oW p a b true = 1:=by unfold oW;rw [if_neg h]
    rw [Bool.eq_false_iff.2 h] at hs
    rw [hc] at hi
    refine ⟨(0,[],[],1),?_,?_,⟨by simp [Sm],by simp [Sm]⟩,by rw [if_neg h]⟩
    · unfold aJ.f
      exact Ev.bind hs (Ev.neg (by decide) (Ev.now _))
    · unfold fq.f
      exact Ev.bind hi (Ev.neg (by decide) (Ev.now _))
/- A source of drawn numbers, what is kept beside it: carried over by instances. -/
class NeB (g k : Nat) : Prop where
  ne : g ≠ k
theorem neI {g k : Nat} (h : au (g ≠ k)) : NeB g k:=⟨h.out⟩
/-- The block g stays as it is. -/
class UpB (g : Nat) (w0 w : World) : Prop where
  up : ∀ {o : Obj},w0.heap[g]? = some o → w.heap[g]? = some o
instance UpB.refl (g : Nat) (w : World) : UpB g w w:=⟨fun h=>h⟩
instance UpB.alloc (g : Nat) (w0 w : World) (o : Obj) [u : UpB g w0 w] : UpB g w0 (w.alloc o):=⟨fun h=>aX (u.up h) (gp (Below.refl _ _) o)⟩
instance UpB.drew (g : Nat) (w0 w : World) [u : UpB g w0 w] : UpB g w0 w.drew:=⟨fun h=>aX (u.up h) (aK (Below.refl _ _))⟩
instance UpB.drewN (g : Nat) (w0 w : World) (n : Nat) [u : UpB g w0 w] : UpB g w0 (w.drewN n):=⟨fun h=>aX (u.up h) (fu (Below.refl _ _) n)⟩
instance UpB.setCell (g : Nat) (w0 w : World) (k j : Nat) (v : Value) [u : UpB g w0 w] [q : NeB g k] : UpB g w0 (w.setCell ⟨k,j,none⟩ v):=⟨fun h=>(Below.heap_setCell w ⟨k,j,none⟩ v g q.ne).trans (u.up h)⟩
theorem uI {w0 W w : World} {g : Nat} {f0 : List Int} {f1 f2 : Int} (h : aI w0 W g f0 f1 f2) [u : UpB g W w] : aI w0 w g f0 f1 f2:=by
  obtain ⟨A,c,h1,h2⟩:=h
  exact ⟨A,c,u.up h1,h2⟩
/-- All but g, and but what lies behind the border, stays. -/
class UpK (b g : Nat) (w0 w : World) : Prop where
  up : ∀ {w1 : World},b = w1.heap.size → aN w1 w0 g none → aN w1 w g none
instance UpK.refl (b g : Nat) (w : World) : UpK b g w w:=⟨fun _ h=>h⟩
instance UpK.alloc (b g : Nat) (w0 w : World) (o : Obj) [u : UpK b g w0 w] : UpK b g w0 (w.alloc o):=⟨fun e h=>pU (u.up e h) o⟩
instance UpK.drew (b g : Nat) (w0 w : World) [u : UpK b g w0 w] : UpK b g w0 w.drew:=⟨fun e h=>ou (u.up e h)⟩
instance UpK.drewN (b g : Nat) (w0 w : World) (n : Nat) [u : UpK b g w0 w] : UpK b g w0 (w.drewN n):=⟨fun e h=>pR (u.up e h) n⟩
instance UpK.far (b g : Nat) (w0 w : World) (k j : Nat) (v : Value) [u : UpK b g w0 w] [q : Geq b k] : UpK b g w0 (w.setCell ⟨k,j,none⟩ v):=⟨by rintro w1 rfl h;exact Gp (u.up rfl h) q.geq v⟩
instance UpK.own (b g : Nat) (w0 w : World) (j : Nat) (v : Value) [u : UpK b g w0 w] : UpK b g w0 (w.setCell ⟨g,j,none⟩ v):=⟨fun e h=>aN.FP (u.up e h) j v⟩
theorem uK {w W w' : World} {g : Nat} (h : aN w W g none) [u : UpK w.heap.size g W w'] : aN w w' g none:=u.up rfl h
/-! ### eH: function 70 -/
def eH.f (ba : List Int) (ca : Int) (da : Int) (l1 : List Int) : Option (Int × Int × Int):=(bu.f ba ca da (l1.length : Int)).bind fun aa=>(if 0 ≤ aa.1 then (if aa.1 < (l1.length : Int) then (some (rd l1 aa.1,aa.2.1,aa.2.2)) else (none)) else (none))
theorem eH.calls (g : Nat) (ba : List Int) (da : Int) (ea : Int) (A1 : Option Addr) (c1 : Nat) (l1 : List Int) (r1 : Int) (r2 : Int) (r3 : Int) (w0 w : World) (hI : aI w0 w g ba da ea) (hB : Below w0.heap.size w0 w) (qa : Kd.C (Kd.int .i64) w A1 l1.length l1) (ra : l1.length ≤ c1) (ma : ∀ ad,A1 = some ad → 0 < l1.length → ad.block ≠ g) (H : eH.f ba da ea l1 = some (r1,r2,r3)) :
  Calls Try.prog 70 #[.pointer (some ⟨g,0,none⟩),.slice A1 l1.length c1] w fun e w'=>e = .returned (.int .i64 r1)∧aI w0 w' g ba r2 r3∧Below w0.heap.size w0 w'∧aN w w' g none:=by
 have sa:=zA qa;have wa:=zA ra;clear qa ra;have ka:=zA hI;have:=geI (zA (aI.ge ka.out));have HK:=zA (aN.refl w g none);have HL:=zA hB.size;clear hI;have HW0:=zA hB.size;have HB:=zA hB;clear hB;unfold eH.f at H;replace H:=bO H;obtain ⟨⟨ca,na,oa⟩,A3,H⟩:=H;(try dsimp only at H);replace H:=gD H;obtain ⟨ta,H⟩:=H;replace H:=gD H;obtain ⟨ua,H⟩:=H;simp only [Option.some.injEq,Prod.mk.injEq] at H;obtain ⟨rfl,rfl,rfl⟩:=H;go_enter Try.func70,Try.ntmps70;go_wp2_with (first | ((with_reducible refine av (f:=68) rfl ?_);refine gL (some 9) Try.func68 #[.pointer (some ⟨g,0,none⟩),.int .i64 (l1.length : Int)] ?_;(with_reducible refine (bu.calls g ba da ea (l1.length : Int) ca na oa w0 _ ?ha ?ia A3.out).mono ?_);(case ha=>exact uI ka.out);(case ia=>exact uH HB.out);rintro e w6 ⟨rfl,hi,hb,hk⟩;refine ⟨_,rfl,?_⟩;replace HK:=zA (aN.trans (uK HK.out) hk (.inl rfl));replace HB:=zA (hb);replace ka:=zA (hi);have fa : 0 ≤ (ca : Int):=of_decide_eq_true (by first | (with_reducible assumption) | assumption);have ga : ca < (l1.length : Int):=of_decide_eq_true (by first | (with_reducible assumption) | assumption);obtain ⟨ja,pa,aa⟩:=Kd.dI sa.out ca fa ga;cases pa;replace aa:=Ew HK.out aa (by first | (rw [add_block];exact ma _ rfl (by omega)) | exact ma _ rfl (by omega) | exact ma ja rfl (by omega));replace fa:=eq_true fa;replace ga:=eq_true ga));go_ret;exact ⟨eX,uI ka.out,uH HB.out,uK HK.out⟩
/- What comes to some value of a kind, whichever (Ex); the source of drawn numbers. No condition. -/
/-- It comes to a value with P. -/
def Ex {α : Type} (g : Nat → Option α) (P : α → Prop) : Prop:=∃ r,Ev g r∧P r
section
variable {α β : Type} {P P' : α → Prop} {Q : β → Prop} {g f X Y : Nat → Option α}
theorem Ex.now {r : α} (h : P r) : Ex (fun _=>some r) P:=⟨r,Ev.now r,h⟩
theorem Ex.weak (h : Ex g P) (k : ∀ a,P a → P' a) : Ex g P':=by
  obtain ⟨r,e,h⟩:=h
  exact ⟨r,e,k r h⟩
theorem Ex.bind {f : Nat → α → Option β} (h : Ex g P) (k : ∀ a,P a → Ex (fun n=>f n a) Q) : Ex (fun n=>(g n).bind (f n)) Q:=by
  obtain ⟨r,e,h⟩:=h
  obtain ⟨s,e',h'⟩:=k r h
  exact ⟨s,Ev.bind e e',h'⟩
theorem Ex.ite {c : Prop} [Decidable c] (h : c → Ex X P) (h' : ¬ c → Ex Y P) : Ex (fun k=>if c then X k else Y k) P:=by
  by_cases g : c
  · obtain ⟨r,e,hr⟩:=h g
    exact ⟨r,Ev.pos g e,hr⟩
  · obtain ⟨r,e,hr⟩:=h' g
    exact ⟨r,Ev.neg g e,hr⟩
theorem Ex.pos {c : Prop} [Decidable c] (g : c) (h : Ex X P) : Ex (fun k=>if c then X k else Y k) P:=Ex.ite (fun _=>h) (fun n=>absurd g n)
theorem Ex.neg {c : Prop} [Decidable c] (g : ¬ c) (h : Ex Y P) : Ex (fun k=>if c then X k else Y k) P:=Ex.ite (fun n=>absurd n g) (fun _=>h)
theorem Ex.step (h : ∀ k,g (k + 1) = f k) (k : Ex f P) : Ex g P:=by
  obtain ⟨r,e,hr⟩:=k
  exact ⟨r,Ev.step h e,hr⟩
theorem Ex.eq {x : Option α} {r : α} (h : x = some r) (k : P r) : Ex (fun _=>x) P:=⟨r,Ev.eq h,k⟩
end

/-- A source of numbers: bytes, of which the first i are used. -/
structure St (c : List Int) (i : Int) : Prop where
  b : ∀ x ∈ c,0 ≤ x∧x < 256
  l : c.length ≤ 4096
  lo : 0 ≤ i
  hi : i ≤ (c.length : Int)
theorem HV (y : Int) : 0 ≤ Go.bits .and .u64 (IntKind.u64.wrap y / 8589934592) 16777215∧Go.bits .and .u64 (IntKind.u64.wrap y / 8589934592) 16777215 < 16777216:=by
  have hw : ∀ n : Int,0 ≤ n → n < 2 ^ 63 → IntKind.u64.wrap n = n:=fun n h₀ h₁=>by rw [IntKind.wrap_u64];omega
  have h0 : 0 ≤ IntKind.u64.wrap y / 8589934592∧IntKind.u64.wrap y / 8589934592 < 2147483648:=by rw [IntKind.wrap_u64];omega
  have h:=bits_mask .u64 63 (by decide) hw 24 (by decide) (IntKind.u64.wrap y / 8589934592) (by omega) (by omega)
  have e : ((2 : Int) ^ 24 - 1) = 16777215:=by decide
  have e2 : ((2 : Int) ^ 24) = 16777216:=by decide
  rw [e,e2] at h
  rw [h]
  omega
/-- What Next gives. -/
def Nx (c : List Int) (n : Int) (r : Int × Int × Int) : Prop:=St c r.2.1∧0 ≤ r.1∧(1 ≤ n → r.1 < n)∧(n < 1 → r.1 = 0)
theorem jI {c : List Int} {i : Int} (s : St c i) (h n : Int) : Ex (fun _=>bu.f c i h n) (Nx c n):=by
  unfold bu.f
  have hl:=s.l
  have hlo:=s.lo
  have hhi:=s.hi
  have hm:=HV (IntKind.u64.wrap (h * 6364136223846793005) + 1442695040888963407)
  generalize Go.bits .and .u64 (IntKind.u64.wrap (IntKind.u64.wrap (h * 6364136223846793005) + 1442695040888963407) / 8589934592) 16777215 = m at hm ⊢
  refine Ex.ite (fun g=>Ex.now ⟨s,Int.le_refl _,fun g'=>by omega,fun _=>rfl⟩) (fun g=>?_)
  refine Ex.ite (fun g1=>?_) (fun g1=>?_)
  · have hx : 0 ≤ rd c i∧rd c i < 256:=by
      obtain ⟨j,rfl⟩ : ∃ j : Nat,i = (j : Int):=⟨i.toNat,by omega⟩
      rw [fw]
      exact s.b _ (pq (by omega))
    have e : wrap64 (wrap64 m + wrap64 (rd c i)) = m + rd c i:=by
      rw [bQ (x:=rd c i) (by omega) (by omega),bQ (x:=m) (by omega) (by omega),bQ (by omega) (by omega)]
    have hb:=iD (p:=n) (by omega) (m + rd c i)
    refine Ex.pos s.lo (Ex.neg (by omega) (Ex.now ⟨⟨s.b,s.l,?_,?_⟩,?_,?_,?_⟩))
    · show 0 ≤ wrap64 (i + 1)
      rw [bQ (by omega) (by omega)];omega
    · show wrap64 (i + 1) ≤ _
      rw [bQ (by omega) (by omega)];omega
    · show 0 ≤ Int.tmod (wrap64 (wrap64 m + wrap64 (rd c i))) n
      rw [e,iG (by omega)];exact hb.1
    · show 1 ≤ n → Int.tmod (wrap64 (wrap64 m + wrap64 (rd c i))) n < n
      rw [e,iG (by omega)];exact fun _=>hb.2
    · exact fun g'=>by omega
  · have e : wrap64 m = m:=bQ (by omega) (by omega)
    have hb:=iD (p:=n) (by omega) m
    refine Ex.neg (by omega) (Ex.now ⟨s,?_,?_,?_⟩)
    · show 0 ≤ Int.tmod (wrap64 m) n
      rw [e,iG (by omega)];exact hb.1
    · show 1 ≤ n → Int.tmod (wrap64 m) n < n
      rw [e,iG (by omega)];exact fun _=>hb.2
    · exact fun g'=>by omega
theorem oO {c : List Int} {i : Int} (s : St c i) (h : Int) (l : List Int) (hl : 1 ≤ l.length) : Ex (fun _=>eH.f c i h l) (fun r=>St c r.2.1∧r.1 ∈ l):=by
  unfold eH.f
  refine Ex.bind (jI s h (l.length : Int)) (fun r hr=>?_)
  obtain ⟨h1,h2,h3,_⟩:=hr
  have h3:=h3 (by omega)
  refine Ex.pos h2 (Ex.pos h3 (Ex.now ⟨h1,?_⟩))
  obtain ⟨j,e⟩ : ∃ j : Nat,r.1 = (j : Int):=⟨r.1.toNat,by omega⟩
  dsimp only
  rw [e,fw]
  exact pq (by omega)
/-- A code's source. -/
def Sc (c : List Int) (r : List Int × Int × Int) : Prop:=r.1 = c∧St c r.2.1
theorem HY {c : List Int} (hb : ∀ x ∈ c,0 ≤ x∧x < 256) (hl : c.length ≤ 4096) (d : Nat) : ∀ (i : Nat) (h : Int),i + d = c.length → Ex (fun k=>bV.l0 k c (i : Int) c 0 h) (Sc c):=by
  have s : St c 0:=⟨hb,hl,Int.le_refl _,by omega⟩
  induction d with
  | zero =>
    intro i h hi
    refine Ex.step (fun k=>by rw [bV.l0]) ?_
    exact Ex.neg (by omega) (Ex.now ⟨rfl,s⟩)
  | succ d ih =>
    intro i h hi
    refine Ex.step (fun k=>by rw [bV.l0]) ?_
    refine Ex.pos (by omega) (Ex.ite (fun _=>Ex.pos (by omega) ?_) (fun _=>Ex.now ⟨rfl,s⟩))
    rw [lT (i:=i) (n:=c.length) (by omega) (by omega)]
    exact ih (i + 1) _ (by omega)
theorem sU {c : List Int} (hb : ∀ x ∈ c,0 ≤ x∧x < 256) (hl : c.length ≤ 4096) : Ex (fun k=>bV.f k c) (Sc c):=by
  unfold bV.f
  exact HY hb hl c.length 0 _ (by omega)
/- Short forms of rows beside a source of drawn numbers; no condition. -/
section
variable {w w0 w1 w2 w' W : World} {g g' : Nat} {S : Nat → Prop} {f0 : List Int} {f1 f2 : Int}
theorem gQ (h : au (aN w0 W g' none)) (hg : g = w.heap.size) [u : UpK w0.heap.size g' W w] : au (w0.heap.size ≤ g):=⟨by rw [hg];exact eU (uK (w':=w) h.out)⟩
theorem sL (h : au (aI w0 W g f0 f1 f2)) (hg : g' = w.heap.size) [u : UpB g W w] : au (g ≠ g'):=⟨by rw [hg];exact Nat.ne_of_lt (aI.lt (uI h.out))⟩
theorem sG (h : au (aI w0 W g f0 f1 f2)) (hg : g' = w.heap.size) [u : UpB g W w] : au (g' ≠ g):=⟨by rw [hg];exact Nat.ne_of_gt (aI.lt (uI h.out))⟩
theorem kS {α : Type} {d : Kd α} {e base : Nat} {ok : Nat → Prop} {v : Value} {xs : List α} (hI : au (aI w0 W g f0 f1 f2)) (hk : aN w w1 g none) (hO : au (d.R e w2 base ok v xs)) [u : UpB g W w] [q : Up w2 w] (hd : ∀ q,q ∈ e :: d.E → q ≠ 125:=by decide) : au (d.R e w1 base ok v xs) :=
  zA (Kd.aA (Kd.Fp (aI.apart (show aI w0 w g f0 f1 f2 from uI hI.out) (uR hO.out) hd) hk (fun _ h=>h.2)) (fun _ h=>h.1))
end
end Go.Proofs.Ytknppcledhnkoaa.Pr
