/- Texts of this session in one: what functions of the program compute, and plain facts of it, under the conditions that each theorem names. -/
import Derived.Test.YtilbjbahmilhkaaKWLast
import Derived.Test.YtilbjbahmilhkaaKWWords
-- PRINTED BY print.sh 35421559ay: not written by this session
/-! ### 50. A region's order in a table, made once a region: each step asks the table (numbers alone), not the operations -/
namespace Go.Proofs.YtilbjbahmilhkaaW.PrintLast
open Go.Proofs.YtilbjbahmilhkaaW.PrintWords (aa)
def zx (md : Region.Mode) (o : Oper) : List Nat:=(o.after.toList.filter (fun e=>Region.binds md e)).map (fun e=>e.on)
def JY (md : Region.Mode) (ops : Array Oper) (i : Nat) (oi : Oper) : List Nat:=(List.range ops.size).filter fun j=>!(j == i) && match ops[j]? with
  | some oj=>!(oj.after.any (fun e=>Region.binds md e && e.on == i) || oi.apart ops oj)
  | none=>false
/-- No select in it; for each operation: what must have come up before it, and what may not come up behind it if it is taken first. -/
def l6 (md : Region.Mode) (ops : Array Oper) : Bool × List (List Nat × List Nat):=(Region.noSelect ops,(List.range ops.size).map fun i=>match ops[i]? with
  | some o=>(zx md o,JY md ops i o)
  | none=>([],[]))
def wL (T : List (List Nat × List Nat)) (l : List Bool) (i : Nat) : Bool:=!l.getD i true && match T[i]? with
  | some r=>r.1.all (fun j=>l.getD j false)
  | none=>false
def r9 (T : List (List Nat × List Nat)) (l : List Bool) : List Nat:=(List.range T.length).filter (wL T l)
def LD (T : List (List Nat × List Nat)) (l : List Bool) (i : Nat) : Bool:=match T[i]? with
  | some r=>r.2.all (fun j=>l.getD j true)
  | none=>false
def Fu (T : List (List Nat × List Nat)) (l : List Bool) : Bool:=(List.range T.length).all fun j=>!l.getD j false || match T[j]? with
  | some r=>r.1.all (fun k=>l.getD k false)
  | none=>true
def DI (T : List (List Nat × List Nat)) (i : Nat) : Nat → Nat → Bool
  | 0,_=>false
  | fuel + 1,d=>match T[d]? with
    | some r=>r.1.any fun j=>j == i || DI T i fuel j
    | none=>false
def lastT (T : List (List Nat × List Nat)) (l : List Bool) (ds : List Nat) (i : Nat) : Bool:=ds.all fun d=>l.getD d true || DI T i T.length d
section
variable {md : Region.Mode} {ops : Array Oper} {T : Bool × List (List Nat × List Nat)} {l l' li lj lk : Array Bool} {ds : List Nat} {i j k : Nat}
theorem gd (l : Array Bool) (j : Nat) (b : Bool) : l.getD j b = l.toList.getD j b:=by simp [Array.getD_eq_getD_getElem?,List.getD_eq_getElem?_getD]
theorem IK (o : Oper) (p : Nat → Bool) : o.after.all (fun e=>!Region.binds md e || p e.on) = (zx md o).all p:=by
  unfold zx
  rw [← Array.all_toList]
  induction o.after.toList with
  | nil=>rfl
  | cons e r ih =>
    rw [List.all_cons,ih,List.filter_cons]
    cases h : Region.binds md e <;> simp
theorem Rn (o : Oper) (p : Nat → Bool) : o.after.any (fun e=>Region.binds md e && p e.on) = (zx md o).any p:=by
  unfold zx
  rw [← Array.any_toList]
  induction o.after.toList with
  | nil=>rfl
  | cons e r ih =>
    rw [List.any_cons,ih,List.filter_cons]
    cases h : Region.binds md e <;> simp
theorem wM : (l6 md ops).2.length = ops.size:=by simp [l6]
theorem zy {o : Oper} (h : ops[i]? = some o) : (l6 md ops).2[i]? = some (zx md o,JY md ops i o):=by
  have hi:=(Array.getElem?_eq_some_iff.1 h).1
  unfold l6
  rw [List.getElem?_map,List.getElem?_range hi,Option.map_some,h]
theorem zz (h : ops[i]? = none) : (l6 md ops).2[i]? = none:=by
  have hi : ops.size ≤ i:=Array.getElem?_eq_none_iff.1 h
  exact List.getElem?_eq_none (by rw [wM];exact hi)
theorem NZ : wL (l6 md ops).2 l.toList i = (!l.getD i true && ((ops[i]?).map (·.after.all fun e=>!Region.binds md e || l.getD e.on false)).getD false):=by
  unfold wL
  rw [gd]
  cases h : ops[i]? with
  | none=>rw [zz h];rfl
  | some o =>
    rw [zy h]
    simp only [Option.map_some,Option.getD_some]
    rw [← IK]
    simp only [gd]
theorem ready_eq : Region.ready md ops l = r9 (l6 md ops).2 l.toList:=by
  unfold Region.ready r9
  rw [wM]
  refine List.filter_congr (fun i _=>?_)
  rw [NZ]
theorem free_eq : Region.free md ops l i = LD (l6 md ops).2 l.toList i:=by
  unfold Region.free LD
  cases h : ops[i]? with
  | none=>rw [zz h]
  | some oi =>
    rw [zy h]
    simp only [JY]
    rw [List.all_filter]
    congr 1
    funext j
    rw [gd]
    cases hj : ops[j]? with
    | none=>cases (j == i) <;> cases (l.toList.getD j true) <;> simp
    | some oj =>
      cases (j == i) <;> cases (l.toList.getD j true) <;> cases (oj.after.any (fun e=>Region.binds md e && e.on == i) || oi.apart ops oj) <;> simp_all
theorem Ro : Region.Cb md ops l = Fu (l6 md ops).2 l.toList:=by
  unfold Region.Cb Fu
  rw [wM]
  congr 1
  funext j
  rw [gd]
  cases h : ops[j]? with
  | none=>rw [zz h]
  | some o =>
    rw [zy h]
    simp only
    rw [← IK]
    simp only [gd]
theorem LF : ∀ (fuel d : Nat),Region.ul md ops i fuel d = DI (l6 md ops).2 i fuel d
  | 0,_=>rfl
  | fuel + 1,d=>by
    unfold Region.ul DI
    cases h : ops[d]? with
    | none=>rw [zz h]
    | some o =>
      rw [zy h]
      simp only
      rw [← Rn]
      congr 1
      funext e
      rw [LF fuel]
theorem Yu : Region.lastB md ops l ds i = lastT (l6 md ops).2 l.toList ds i:=by
  unfold Region.lastB lastT
  rw [wM]
  congr 1
  funext d
  rw [gd,LF]
theorem EC (h : wL T.2 l.toList i = true) (hT : l6 md ops = T) : (Region.ready md ops l).contains i = true:=by
  subst hT
  rw [ready_eq]
  unfold r9
  rw [List.contains_iff_mem,List.mem_filter,List.mem_range]
  refine ⟨?_,h⟩
  unfold wL at h
  rw [Bool.and_eq_true] at h
  cases hq : (l6 md ops).2[i]? with
  | none=>rw [hq] at h;simp at h
  | some r=>exact (List.getElem?_eq_some_iff.1 hq).1
theorem uk (h : (l.toList.set i true == l'.toList) = true) : (l.setIfInBounds i true == l') = true:=by
  rw [beq_iff_eq] at h ⊢
  apply Array.ext'
  rw [Array.toList_setIfInBounds]
  exact h
def Yv (T : Bool × List (List Nat × List Nat)) (l l' : List Bool) (i : Nat) : Bool:=T.1 && LD T.2 l i && wL T.2 l i && (l.set i true == l')
/-- pure_'s condition out of the table. -/
theorem Uo (hT : l6 md ops = T) (h : Yv T l.toList l'.toList i = true) : Yw md ops l l' i = true:=by
  simp only [Yv,Bool.and_eq_true] at h
  obtain ⟨⟨⟨h1,h2⟩,h3⟩,h4⟩:=h
  have h5:=EC h3 hT
  have h6:=uk h4
  subst hT
  simp only [Yw,Bool.and_eq_true]
  exact ⟨⟨⟨h1,by rw [free_eq];exact h2⟩,h5⟩,h6⟩
def Uq (T : Bool × List (List Nat × List Nat)) (ds : List Nat) (l l' : List Bool) (i : Nat) : Bool:=T.1 && LD T.2 l i && wL T.2 l i && Fu T.2 l && lastT T.2 l ds i && (l.set i true == l')
/-- take_'s. -/
theorem Yx (hT : l6 md ops = T) (h : Uq T ds l.toList l'.toList i = true) : takeB md ops ds l l' i = true:=by
  simp only [Uq,Bool.and_eq_true] at h
  obtain ⟨⟨⟨⟨⟨h1,h2⟩,h3⟩,h4⟩,h5⟩,h6⟩:=h
  have h7:=EC h3 hT
  have h8:=uk h6
  subst hT
  simp only [takeB,Bool.and_eq_true]
  exact ⟨⟨⟨⟨⟨h1,by rw [free_eq];exact h2⟩,h7⟩,by rw [Ro];exact h4⟩,by rw [Yu];exact h5⟩,h8⟩
/-- one_'s and last_'s. -/
theorem uj (hT : l6 md ops = T) (h : (r9 T.2 l.toList == [i] && l.toList.set i true == l'.toList) = true) : DJ md ops l l' i = true:=by
  simp only [Bool.and_eq_true] at h
  obtain ⟨h1,h2⟩:=h
  subst hT
  simp only [DJ,Bool.and_eq_true]
  exact ⟨by rw [ready_eq];exact h1,uk h2⟩
theorem pu (hT : l6 md ops = T) (h : (r9 T.2 l.toList == [i,j] && l.toList.set i true == li.toList && l.toList.set j true == lj.toList) = true) : (Region.ready md ops l == [i,j] && l.setIfInBounds i true == li && l.setIfInBounds j true == lj) = true:=by
  simp only [Bool.and_eq_true] at h ⊢
  obtain ⟨⟨h1,h2⟩,h3⟩:=h
  subst hT
  exact ⟨⟨by rw [ready_eq];exact h1,uk h2⟩,uk h3⟩
theorem vS (hT : l6 md ops = T) (h : (r9 T.2 l.toList == [i,j,k] && l.toList.set i true == li.toList && l.toList.set j true == lj.toList && l.toList.set k true == lk.toList) = true) :
    (Region.ready md ops l == [i,j,k] && l.setIfInBounds i true == li && l.setIfInBounds j true == lj && l.setIfInBounds k true == lk) = true:=by
  simp only [Bool.and_eq_true] at h ⊢
  obtain ⟨⟨⟨h1,h2⟩,h3⟩,h4⟩:=h
  subst hT
  exact ⟨⟨⟨by rw [ready_eq];exact h1,uk h2⟩,uk h3⟩,uk h4⟩
/-- done_'s. -/
theorem done_of (hT : l6 md ops = T) (h : (r9 T.2 l.toList == []) = true) : (Region.ready md ops l == []) = true:=by
  subst hT
  rw [ready_eq]
  exact h
/-- What d waits for, as_ bits: told in the table (B), checked in one pass: each bit is a need of d, or a bit of an earlier need's. -/
def upM (B : List Nat) (d : Nat) : List Nat → Nat
  | []=>0
  | n :: r=>(2 ^ n ||| (if n < d then B.getD n 0 else 0)) ||| upM B d r
def jV (T : List (List Nat × List Nat)) (B : List Nat) : Bool:=(List.range T.length).all fun d=>match T[d]? with
  | some r=>(B.getD d 0 ||| upM B d r.1) == upM B d r.1
  | none=>false
theorem PN {B : List Nat} {d i : Nat} : ∀ {ns : List Nat},(upM B d ns).testBit i = true → ∃ n ∈ ns,n = i ∨ (n < d∧(B.getD n 0).testBit i = true)
  | [],h=>by simp [upM] at h
  | n :: r,h=>by
    unfold upM at h
    rw [Nat.testBit_or,Nat.testBit_or,Bool.or_eq_true,Bool.or_eq_true] at h
    rcases h with (h | h) | h
    · rw [Nat.testBit_two_pow] at h
      exact ⟨n,List.mem_cons_self,.inl (by simpa using h)⟩
    · by_cases hn : n < d
      · rw [if_pos hn] at h
        exact ⟨n,List.mem_cons_self,.inr ⟨hn,h⟩⟩
      · rw [if_neg hn] at h
        simp at h
    · obtain ⟨m,hm,h2⟩:=PN h
      exact ⟨m,List.mem_cons_of_mem _ hm,h2⟩
theorem IL {T : List (List Nat × List Nat)} {B : List Nat} (hB : jV T B = true) : ∀ (fuel d : Nat),d < fuel → d < T.length → (B.getD d 0).testBit i = true → DI T i fuel d = true
  | 0,d,h,_,_=>by omega
  | fuel + 1,d,h,hd,hb=>by
    have h1:=List.all_eq_true.1 hB d (List.mem_range.2 hd)
    cases hr : T[d]? with
    | none=>rw [hr] at h1;simp at h1
    | some r =>
      rw [hr] at h1
      simp only [beq_iff_eq] at h1
      have h2 : (upM B d r.1).testBit i = true:=by rw [← h1,Nat.testBit_or,hb,Bool.true_or]
      obtain ⟨n,hn,h3⟩:=PN h2
      unfold DI
      rw [hr]
      simp only
      rw [List.any_eq_true]
      refine ⟨n,hn,?_⟩
      rcases h3 with rfl | ⟨h4,h5⟩
      · simp
      · rw [IL hB fuel n (by omega) (by omega) h5,Bool.or_true]
def abq (T : List (List Nat × List Nat)) (B : List Nat) (l : List Bool) (ds : List Nat) (i : Nat) : Bool:=ds.all fun d=>l.getD d true || (decide (d < T.length) && (B.getD d 0).testBit i)
def Ur (T : Bool × List (List Nat × List Nat)) (B : List Nat) (ds : List Nat) (l l' : List Bool) (i : Nat) : Bool:=T.1 && LD T.2 l i && wL T.2 l i && Fu T.2 l && abq T.2 B l ds i && (l.set i true == l')
/-- take_'s, by the bits. -/
theorem Us {B : List Nat} (hT : l6 md ops = T) (hB : jV T.2 B = true) (h : Ur T B ds l.toList l'.toList i = true) : takeB md ops ds l l' i = true:=by
  refine Yx hT ?_
  simp only [Ur,Uq,Bool.and_eq_true] at h ⊢
  obtain ⟨⟨⟨⟨⟨h1,h2⟩,h3⟩,h4⟩,h5⟩,h6⟩:=h
  refine ⟨⟨⟨⟨⟨h1,h2⟩,h3⟩,h4⟩,?_⟩,h6⟩
  unfold abq at h5
  unfold lastT
  rw [List.all_eq_true] at h5 ⊢
  intro d hd
  have h7:=h5 d hd
  rw [Bool.or_eq_true,Bool.and_eq_true,decide_eq_true_eq] at h7
  rcases h7 with h7 | ⟨h8,h9⟩
  · rw [h7,Bool.true_or]
  · rw [IL hB _ d h8 h8 h9,Bool.or_true]
theorem ig {P : Program} {Q : Exit → Act → World → Prop} {S : World → Prop} {n : Nat} {a : Act} {w : World} {B : List Nat} (hT : l6 md ops = T) (hB : jV T.2 B = true) (h : aa (l6 md ops = T) → aa (jV T.2 B = true) → cK P md ops Q S ds n l a w) : cK P md ops Q S ds n l a w:=h ⟨hT⟩ ⟨hB⟩
end
/-- The operations of a region, by its number. -/
def AO : Code → Nat → Option (Array Oper)
  | .region id ops _,k=>if id == k then some ops else none
  | .seq a b,k=>match AO a k with
    | some o=>some o
    | none=>AO b k
  | .cond _ a b,k=>match AO a k with
    | some o=>some o
    | none=>AO b k
  | .block _ c,k=>AO c k
  | .loop c,k=>AO c k
  | .scope c,k=>AO c k
  | .rangeFunc _ _ a b,k=>match AO a k with
    | some o=>some o
    | none=>AO b k
  | _,_=>none
def opsOf (f : Func) (k : Nat) : Array Oper:=((f.body.bind fun c=>AO c k)).getD #[]
end Go.Proofs.YtilbjbahmilhkaaW.PrintLast
