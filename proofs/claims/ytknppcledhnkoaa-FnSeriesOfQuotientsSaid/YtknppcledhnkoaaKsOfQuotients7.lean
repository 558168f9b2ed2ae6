/- Texts of this session in one: what functions of the program compute, and plain facts of it, under the conditions that each theorem names. -/
import Derived.Laws.BitsLemmas
import Derived.Test.YtknppcledhnkoaaKsOfQuotients1
import Derived.Test.YtknppcledhnkoaaKsOfQuotients2
import Derived.Test.YtknppcledhnkoaaKsOfQuotients3
import Derived.Test.YtknppcledhnkoaaKsOfQuotients4
import Derived.Test.YtknppcledhnkoaaKsOfQuotients5
import Derived.Test.YtknppcledhnkoaaKsOfQuotients6
namespace Go.Proofs.Ytknppcledhnkoaa.Pr
/- Plain lemmas: rounds (Ev), wrapped sums, rests modulo p, lists read and written at an index. No program is in sight. -/
open Go.RowKit Go.Proofs.YtknppcledhnkoaaW.PrintWords Go.Proofs.YtknppcledhnkoaaW.PrintLast Go.Proofs.YtknppcledhnkoaaW.PrintMore
section
variable {α β : Type}
theorem Ev.pos {c : Prop} [Decidable c] {X Y : Nat → Option α} {r : α} (h : c) (e : Ev X r) : Ev (fun k=>if c then X k else Y k) r:=by
  simpa only [if_pos h] using e
theorem Ev.neg {c : Prop} [Decidable c] {X Y : Nat → Option α} {r : α} (h : ¬ c) (e : Ev Y r) : Ev (fun k=>if c then X k else Y k) r:=by
  simpa only [if_neg h] using e
theorem Ev.eq {x : Option α} {r : α} (h : x = some r) : Ev (fun _=>x) r:=⟨0,fun _ _=>h⟩
theorem Ev.kJ {r s : α} (h : r = s) : Ev (fun _=>some r) s:=⟨0,fun _ _=>by rw [h]⟩
theorem Ev.gY {x : Option α} {f : Nat → α → Option β} {a : α} {r : β} (h : x = some a) (e : Ev (fun n=>f n a) r) : Ev (fun n=>x.bind (f n)) r:=by
  subst h;simpa using e
theorem Ev.cast {g : Nat → Option α} {r s : α} (h : Ev g r) (e : r = s) : Ev g s:=e ▸ h
end

theorem bT {x : Int} (h0 : -9223372036854775808 ≤ x) (h1 : x < 9223372036854775808) : wrap64 x = x:=by unfold wrap64;omega
theorem jN {i n : Nat} (h : i < n) (hn : n < 4611686018427387904) : wrap64 ((i : Int) + 1) = ((i + 1 : Nat) : Int):=by unfold wrap64;omega
theorem Bz {i j n : Nat} (h : i + j < n) (hn : n < 4611686018427387904) : wrap64 ((i : Int) + (j : Int)) = ((i + j : Nat) : Int):=by unfold wrap64;omega
theorem vI {i : Nat} (h : 0 < i) (hn : i < 4611686018427387904) : wrap64 ((i : Int) - 1) = ((i - 1 : Nat) : Int):=by unfold wrap64;omega

theorem fI (l : List Int) (i : Nat) : rd l (i : Int) = l.getD i 0:=by simp [rd]
theorem ou (l : List (List Int)) (i : Nat) : dA l (i : Int) = l.getD i []:=by simp [dA]
theorem vJ {α : Type} {l : List α} {i : Nat} {d : α} (h : i < l.length) : l.getD i d ∈ l:=by
  simp only [List.getD_eq_getElem?_getD,List.getElem?_eq_getElem h,Option.getD_some];exact List.getElem_mem h
theorem fT (i : Nat) : ((i : Int)).toNat = i:=rfl

/-- A length that is small. -/
abbrev Sm (n : Nat) : Prop:=n ≤ 1048576

/-- Numbers modulo p. -/
def Nm (p : Int) (l : List Int) : Prop:=∀ x ∈ l,0 ≤ x∧x < p
theorem Nm.nil (p : Int) : Nm p []:=fun x h=>by cases h
theorem Nm.cons {p x : Int} {l : List Int} (h0 : 0 ≤ x) (h1 : x < p) (h : Nm p l) : Nm p (x :: l):=fun y hy=>by
  rcases List.mem_cons.1 hy with rfl | hy
  · exact ⟨h0,h1⟩
  · exact h y hy
theorem Nm.append {p : Int} {l m : List Int} (h : Nm p l) (h' : Nm p m) : Nm p (l ++ m):=fun y hy=>by
  rcases List.mem_append.1 hy with hy | hy
  · exact h y hy
  · exact h' y hy
theorem Nm.get {p : Int} {l : List Int} (h : Nm p l) {i : Nat} (hi : i < l.length) : 0 ≤ l.getD i 0∧l.getD i 0 < p:=h _ (vJ hi)
theorem Nm.mq {p : Int} {l : List Int} (h : Nm p l) (hp : 0 < p) (i : Nat) : 0 ≤ l.getD i 0∧l.getD i 0 < p:=by
  by_cases hi : i < l.length
  · exact h.get hi
  · rw [List.getD_eq_getElem?_getD,List.getElem?_eq_none (by omega)];exact ⟨Int.le_refl _,hp⟩
theorem Nm.take {p : Int} {l : List Int} (h : Nm p l) (n : Nat) : Nm p (l.take n):=fun x hx=>h x (List.mem_of_mem_take hx)
theorem Nm.drop {p : Int} {l : List Int} (h : Nm p l) (n : Nat) : Nm p (l.drop n):=fun x hx=>h x (List.mem_of_mem_drop hx)
theorem Nm.set {p x : Int} {l : List Int} (h : Nm p l) (h0 : 0 ≤ x) (h1 : x < p) (i : Nat) : Nm p (l.set i x):=fun y hy=>by
  rcases List.mem_or_eq_of_mem_set hy with hy | rfl
  · exact h y hy
  · exact ⟨h0,h1⟩
theorem Nm.zeros {p : Int} (hp : 0 < p) (n : Nat) : Nm p (List.replicate n 0):=fun x hx=>by
  rw [(List.mem_replicate.1 hx).2];exact ⟨Int.le_refl _,hp⟩
instance (p : Int) (l : List Int) : Decidable (Nm p l):=by unfold Nm;infer_instance

/-- A modulus that the program may have (in its range; a prime or not). -/
structure Pm (p : Int) : Prop where
  two : 2 ≤ p
  top : p ≤ 10007
theorem Pm.pos {p : Int} (h : Pm p) : 0 < p:=by have:=h.two;omega
theorem Pm.ne {p : Int} (h : Pm p) : p ≠ 0:=by have:=h.two;omega

theorem EO {a b m n : Int} (ha : 0 ≤ a) (ha' : a ≤ m) (hb : 0 ≤ b) (hb' : b ≤ n) : 0 ≤ a * b∧a * b ≤ m * n :=
  ⟨Int.mul_nonneg ha hb,Int.mul_le_mul ha' hb' hb (by omega)⟩
/-- A product of two numbers modulo p. -/
theorem rU {p a b : Int} (hp : Pm p) (ha : 0 ≤ a) (ha' : a < p) (hb : 0 ≤ b) (hb' : b < p) : 0 ≤ a * b∧a * b ≤ 100140049:=by
  have h1:=hp.top
  have h:=EO (m:=10007) (n:=10007) ha (by omega) hb (by omega)
  exact ⟨h.1,by omega⟩
theorem jk {a b : Int} (h : 0 ≤ a) : Int.tmod a b = a % b:=Int.tmod_eq_emod_of_nonneg h
theorem jQ {p : Int} (hp : 0 < p) (x : Int) : 0 ≤ x % p∧x % p < p:=⟨Int.emod_nonneg _ (by omega),Int.emod_lt_of_pos _ hp⟩
/-- Go's '(x % p + p) % p' is the rest of x. -/
theorem zk {p x : Int} (hp : Pm p) : Int.tmod (wrap64 (Int.tmod x p + p)) p = x % p:=by
  have h2:=hp.two
  have ht:=hp.top
  have h:=Int.tmod_eq_emod (a:=x) (b:=p)
  have hb:=jQ hp.pos x
  have hn : ((p.natAbs : Nat) : Int) = p:=by omega
  split at h
  · rw [h,Int.natCast_zero,bT (by omega) (by omega),jk (by omega),show x % p - 0 + p = x % p + p from by omega,Int.add_emod_right,Int.emod_emod]
  · rw [h,hn,bT (by omega) (by omega),jk (by omega),show x % p - p + p = x % p from by omega,Int.emod_emod]

/-- A list without noughts at its end. -/
def iQ (l : List Int) : List Int:=(l.reverse.dropWhile (· == 0)).reverse
theorem vK : iQ [] = []:=rfl
theorem mr (l : List Int) : iQ (l ++ [0]) = iQ l:=by simp [iQ]
theorem lY (l : List Int) {x : Int} (h : x ≠ 0) : iQ (l ++ [x]) = l ++ [x]:=by simp [iQ,h]
theorem xw {α : Type} {P : List α → Prop} (h0 : P []) (h1 : ∀ l x,P l → P (l ++ [x])) (l : List α) : P l:=by
  have h : ∀ l : List α,P l.reverse:=by
    intro l
    induction l with
    | nil=>exact h0
    | cons x l ih=>rw [List.reverse_cons];exact h1 _ _ ih
  simpa using h l.reverse
theorem vL (l : List Int) : ∃ n,l = iQ l ++ List.replicate n 0:=by
  induction l using xw with
  | h0=>exact ⟨0,rfl⟩
  | h1 l x ih =>
    by_cases h : x = 0
    · subst h
      obtain ⟨n,hn⟩:=ih
      refine ⟨n + 1,?_⟩
      rw [mr,List.replicate_succ',← List.append_assoc,← hn]
    · exact ⟨0,by rw [lY l h];simp⟩
/- The great laws' comparisons of lists and moments. -/
open Go Go.RowKit Go.Proofs.YtknppcledhnkoaaW.PrintWords Go.Proofs.YtknppcledhnkoaaW.PrintLast Go.Proofs.YtknppcledhnkoaaW.PrintMore
theorem EP (l : List Int) (hl : Sm l.length) (d : Nat) : ∀ i : Nat,i + d = l.length → Ev (fun k=>bB.l0 k l l (i : Int)) true:=by
  unfold Sm at hl
  induction d with
  | zero =>
    intro i hi
    refine Ev.step (fun k=>by rw [bB.l0]) ?_
    exact Ev.neg (by omega) (Ev.now _)
  | succ d ih =>
    intro i hi
    refine Ev.step (fun k=>by rw [bB.l0]) ?_
    refine Ev.pos (by omega) (Ev.pos (by omega) (Ev.pos (by omega) (Ev.pos rfl ?_)))
    rw [jN (i:=i) (n:=l.length) (by omega) (by omega)]
    exact ih (i + 1) (by omega)
theorem ow (l : List Int) (hl : Sm l.length) : Ev (fun k=>bB.f k l l) true:=by
  unfold bB.f
  exact Ev.pos rfl (EP l hl l.length 0 (by omega))
/- Copies of lists; no condition. -/
theorem Sm0 : Sm ([] : List Int).length:=by simp [Sm]
theorem Sm.take {l : List Int} (h : Sm l.length) (n : Nat) : Sm (l.take n).length:=by unfold Sm at h ⊢;rw [List.length_take];omega
theorem Sm.drop {l : List Int} (h : Sm l.length) (n : Nat) : Sm (l.drop n).length:=by unfold Sm at h ⊢;rw [List.length_drop];omega
theorem vM (l : List Int) (hl : Sm l.length) : dR.f l = some l:=by
  unfold dR.f
  simp only [Option.bind_some,List.length_nil,List.nil_append]
  rw [if_pos (by unfold Sm at hl;omega)]
theorem vv (l : List Int) (hl : Sm l.length) : gp.f l = some l:=by
  unfold gp.f
  rw [if_pos (by unfold Sm at hl;omega)]
/- Primes and numbers modulo p: what the program and the reference compute of them. -/
theorem wI (a b c : Int) : eu.f a b c = some (decide (b ≤ a∧a ≤ c)):=by
  unfold eu.f
  by_cases h : b ≤ a
  · rw [if_pos h];simp [h]
  · rw [if_neg h];simp [h]
theorem oP (a b c : Int) : fJ.f a b c = some (decide (b ≤ a∧a ≤ c)):=by
  unfold fJ.f
  by_cases h : b ≤ a
  · rw [if_pos h];simp [h]
  · rw [if_neg h];simp [h]
theorem has_eq (p x : Int) : fu.f p x = some (decide (0 ≤ x∧x < p)):=by
  unfold fu.f
  by_cases h : 0 ≤ x
  · rw [if_pos h];simp [h]
  · rw [if_neg h];simp [h]
theorem p8 {p : Int} (hp : Pm p) (x : Int) : dB.f p x = some (x % p):=by
  unfold dB.f
  rw [if_neg hp.ne,zk hp]

/-! ### primes -/
def ul (p : Int) (i : Nat) : Prop:=∀ j,j < 101 → i ≤ j → (j : Int) * (j : Int) ≤ p → p % (j : Int) ≠ 0
instance (p : Int) (i : Nat) : Decidable (ul p i):=by unfold ul;infer_instance
def bK (p : Int) : Bool:=decide (2 ≤ p∧p ≤ 10007) && decide (ul p 2)
theorem bK.pm {p : Int} (h : bK p = true) : Pm p:=by
  simp only [bK,Bool.and_eq_true,decide_eq_true_eq] at h
  exact ⟨h.1.1,h.1.2⟩
theorem vN {p : Int} {i : Nat} (h : p % (i : Int) ≠ 0) : decide (ul p i) = decide (ul p (i + 1)):=by
  apply decide_eq_decide.2
  constructor
  · exact fun g j h1 h2 h3=>g j h1 (by omega) h3
  · intro g j h1 h2 h3
    by_cases e : j = i
    · subst e;exact h
    · exact g j h1 (by omega) h3
theorem qE {p : Int} {i : Nat} (h : p < (i : Int) * (i : Int)) : ul p i:=by
  intro j h1 h2 h3
  have:=EO (a:=(i : Int)) (b:=(i : Int)) (m:=(j : Int)) (n:=(j : Int)) (by omega) (by omega) (by omega) (by omega)
  omega
theorem sqB {i : Nat} (h : i ≤ 101) : 0 ≤ (i : Int) * (i : Int)∧(i : Int) * (i : Int) ≤ 10201:=by
  have:=EO (a:=(i : Int)) (b:=(i : Int)) (m:=101) (n:=101) (by omega) (by omega) (by omega) (by omega)
  omega
theorem xx {p : Int} (h2 : 2 ≤ p) (ht : p ≤ 10007) (d : Nat) : ∀ i,2 ≤ i → i + d = 101 → Ev (fun k=>bY.l0 k p (i : Int)) (decide (ul p i)):=by
  induction d with
  | zero =>
    intro i hi hd
    obtain rfl : i = 101:=by omega
    refine Ev.step (fun k=>by rw [bY.l0]) ?_
    refine Ev.neg (by rw [bT (by omega) (by omega)];omega) (Ev.kJ ?_)
    exact (decide_eq_true (qE (by omega))).symm
  | succ d ih =>
    intro i hi hd
    have hb:=sqB (i:=i) (by omega)
    refine Ev.step (fun k=>by rw [bY.l0]) ?_
    rw [bT (x:=(i : Int) * (i : Int)) (by omega) (by omega),jk (by omega)]
    by_cases h : (i : Int) * (i : Int) ≤ p
    · refine Ev.pos h (Ev.neg (by omega) ?_)
      by_cases h3 : p % (i : Int) = 0
      · exact Ev.pos h3 (Ev.kJ (decide_eq_false (fun g=>g i (by omega) (by omega) h h3)).symm)
      · refine Ev.neg h3 ?_
        rw [vN h3,jN (i:=i) (n:=101) (by omega) (by omega)]
        exact ih (i + 1) (by omega) (by omega)
    · exact Ev.neg h (Ev.kJ (decide_eq_true (qE (by omega))).symm)
theorem xy {p : Int} (h2 : 2 ≤ p) (ht : p ≤ 10007) (d : Nat) : ∀ i,2 ≤ i → i + d = 101 → Ev (fun k=>eP.l0 k p (i : Int)) (decide (ul p i)):=by
  induction d with
  | zero =>
    intro i hi hd
    obtain rfl : i = 101:=by omega
    refine Ev.step (fun k=>by rw [eP.l0]) ?_
    refine Ev.neg (by rw [bT (by omega) (by omega)];omega) (Ev.kJ ?_)
    exact (decide_eq_true (qE (by omega))).symm
  | succ d ih =>
    intro i hi hd
    have hb:=sqB (i:=i) (by omega)
    refine Ev.step (fun k=>by rw [eP.l0]) ?_
    rw [bT (x:=(i : Int) * (i : Int)) (by omega) (by omega),jk (by omega)]
    by_cases h : (i : Int) * (i : Int) ≤ p
    · refine Ev.pos h (Ev.neg (by omega) ?_)
      by_cases h3 : p % (i : Int) = 0
      · exact Ev.pos h3 (Ev.kJ (decide_eq_false (fun g=>g i (by omega) (by omega) h h3)).symm)
      · refine Ev.neg h3 ?_
        rw [vN h3,jN (i:=i) (n:=101) (by omega) (by omega)]
        exact ih (i + 1) (by omega) (by omega)
    · exact Ev.neg h (Ev.kJ (decide_eq_true (qE (by omega))).symm)
theorem nC (p : Int) : Ev (fun k=>bY.f k p) (bK p):=by
  unfold bY.f bK
  refine Ev.gY (wI _ _ _) ?_
  by_cases h : 2 ≤ p∧p ≤ 10007
  · refine Ev.pos (decide_eq_true h) ?_
    rw [decide_eq_true h,Bool.true_and]
    exact xx h.1 h.2 99 2 (by omega) (by omega)
  · refine Ev.neg (by simp [h]) (Ev.kJ ?_)
    rw [decide_eq_false h,Bool.false_and]
theorem rQ (p : Int) : Ev (fun k=>eP.f k p) (bK p):=by
  unfold eP.f bK
  refine Ev.gY (oP _ _ _) ?_
  by_cases h : 2 ≤ p∧p ≤ 10007
  · refine Ev.pos (decide_eq_true h) ?_
    rw [decide_eq_true h,Bool.true_and]
    exact xy h.1 h.2 99 2 (by omega) (by omega)
  · refine Ev.neg (by simp [h]) (Ev.kJ ?_)
    rw [decide_eq_false h,Bool.false_and]

/-! ### numbers modulo p -/
theorem xz (p x : Int) (l : List Int) : Nm p (x :: l) ↔ (0 ≤ x∧x < p)∧Nm p l:=by
  constructor
  · exact fun h=>⟨h x (List.mem_cons_self ..),fun y hy=>h y (List.mem_cons_of_mem _ hy)⟩
  · exact fun h=>Nm.cons h.1.1 h.1.2 h.2
theorem CS (p : Int) (l : List Int) : rZ (fun z_=>fu.f p z_) l = some (decide (Nm p l)):=by
  induction l with
  | nil=>simp only [rZ];rw [decide_eq_true (Nm.nil p)]
  | cons x l ih =>
    simp only [has_eq] at ih
    simp only [rZ,has_eq,Option.bind_some]
    by_cases h : 0 ≤ x∧x < p
    · rw [if_pos (decide_eq_true h),ih]
      congr 1
      apply decide_eq_decide.2
      rw [xz]
      exact ⟨fun g=>⟨h,g⟩,fun g=>g.2⟩
    · rw [if_neg (by simp [h])]
      congr 1
      exact (decide_eq_false (fun g=>h ((xz p x l).1 g).1)).symm
theorem uZ (p : Int) (l : List Int) (hl : l.length < 4611686018427387904) : gu.f l (fun z_=>fu.f p z_) = some (decide (Nm p l)):=by
  unfold gu.f
  rw [if_pos hl,CS]
theorem rR {p : Int} {l : List Int} {i : Nat} (h : i < l.length) : Nm p (l.drop i) ↔ (0 ≤ l.getD i 0∧l.getD i 0 < p)∧Nm p (l.drop (i + 1)):=by
  rw [tN l 0 i h,xz]
/-! ### sums -/
def sumTo (g : Nat → Int) : Nat → Int
  | 0=>0
  | n + 1=>sumTo g n + g n
/- Polynomials and the program's code for them; no condition. -/
/-! ### polynomials -/
def tJ (l : List Int) : Bool:=decide (l.length = 0) || (l.getD (l.length - 1) 0 != 0)
def fM (p : Int) (l : List Int) : Bool:=decide (Nm p l) && (decide (l.length ≤ 25) && tJ l)
theorem yt (l : List Int) (hl : Sm l.length) :
    (if (l.length : Int) = 0 then (some true) else (if 0 ≤ (wrap64 ((l.length : Int) - 1)) then (if (wrap64 ((l.length : Int) - 1)) < (l.length : Int) then (some ((rd l (wrap64 ((l.length : Int) - 1))) != 0)) else none) else none)) = some (tJ l):=by
  unfold tJ
  by_cases h : l.length = 0
  · rw [if_pos (by omega)];simp [h]
  · rw [if_neg (by omega),vI (by omega) (by unfold Sm at hl;omega),if_pos (by omega),if_pos (by omega),fI]
    simp [h]
theorem yu (p : Int) (l : List Int) (hl : Sm l.length) : kw.f p l = some (fM p l):=by
  unfold kw.f fM
  by_cases h : l.length ≤ 25
  · rw [if_pos (by omega),uZ p l (by omega),Option.bind_some]
    by_cases hn : Nm p l
    · rw [if_pos (decide_eq_true hn),yt l hl];simp [h,hn]
    · rw [if_neg (by simp [hn])];simp [hn]
  · rw [if_neg (by omega)];simp [h]
theorem BF (p : Int) (ls : List (List Int)) (hl : ∀ l ∈ ls,Sm l.length) : rZ (fun z_=>eZ.f z_ p) ls = some (ls.all (fM p)):=by
  induction ls with
  | nil=>rfl
  | cons l ls ih =>
    have e : eZ.f l p = some (fM p l):=by
      unfold eZ.f
      rw [yu p l (hl l (List.mem_cons_self ..))];rfl
    simp only [rZ,e,Option.bind_some,List.all_cons]
    by_cases h : fM p l = true
    · rw [if_pos h,ih (fun m hm=>hl m (List.mem_cons_of_mem _ hm)),h,Bool.true_and]
    · rw [if_neg h,Bool.eq_false_iff.2 h,Bool.false_and]
theorem ol (p : Int) (b : Bool) (ls : List (List Int)) (hs : Sm ls.length) (hl : ∀ l ∈ ls,Sm l.length) :
    Ev (fun k=>eH.f k p b ls) (if ls.all (fM p) then (if bK p && b then 0 else 2) else 1):=by
  unfold eH.f
  have e : iq.f ls (fun z_=>eZ.f z_ p) = some (ls.all (fM p)):=by
    unfold iq.f
    rw [if_pos (by unfold Sm at hs;omega),BF p ls hl]
  refine Ev.gY e ?_
  by_cases h : ls.all (fM p) = true
  · refine Ev.pos h (Ev.bind (rQ p) ?_)
    rw [if_pos h]
    cases bK p <;> cases b <;> exact ⟨0,fun _ _=>rfl⟩
  · refine Ev.neg h (Ev.kJ ?_)
    rw [if_neg h]
/- Polynomials: the reference's test; no condition. -/
theorem yw (p : Int) (l : List Int) (hl : Sm l.length) (d : Nat) : ∀ i,i + d = l.length → Ev (fun k=>gy.l0 k p l (i : Int)) (decide (Nm p (l.drop i)) && (decide (l.length ≤ 25) && tJ l)):=by
  induction d with
  | zero =>
    intro i hi
    refine Ev.step (fun k=>by rw [gy.l0]) ?_
    refine Ev.neg (by omega) ?_
    rw [List.drop_eq_nil_of_le (by omega),decide_eq_true (Nm.nil p),Bool.true_and]
    by_cases h : l.length ≤ 25
    · refine Ev.pos (by omega) (Ev.eq ?_)
      rw [yt l hl];simp [h]
    · exact Ev.neg (by omega) (Ev.kJ (by simp [h]))
  | succ d ih =>
    intro i hi
    refine Ev.step (fun k=>by rw [gy.l0]) ?_
    refine Ev.pos (by omega) (Ev.pos (by omega) ?_)
    rw [fI,jN (i:=i) (n:=l.length) (by omega) (by unfold Sm at hl;omega)]
    by_cases h : l.getD i 0 < 0
    · refine Ev.pos h (Ev.kJ ?_)
      rw [decide_eq_false (fun g=>by have:=((rR (by omega : i < l.length)).1 g).1.1;omega),Bool.false_and]
    · refine Ev.neg h ?_
      by_cases h' : p ≤ l.getD i 0
      · refine Ev.pos h' (Ev.kJ ?_)
        rw [decide_eq_false (fun g=>by have:=((rR (by omega : i < l.length)).1 g).1.2;omega),Bool.false_and]
      · refine Ev.neg h' (Ev.cast (ih (i + 1) (by omega)) ?_)
        congr 1
        apply decide_eq_decide.2
        rw [rR (by omega : i < l.length)]
        exact ⟨fun g=>⟨⟨by omega,by omega⟩,g⟩,fun g=>g.2⟩
theorem yx (p : Int) (l : List Int) (hl : Sm l.length) : Ev (fun k=>gy.f k p l) (fM p l):=by
  unfold gy.f fM
  simpa using yw p l hl l.length 0 (by omega)
/- The reference's code of a prime and polynomials; no condition. -/
theorem wF (p : Int) (ls : List (List Int)) (hs : Sm ls.length) (hl : ∀ l ∈ ls,Sm l.length) (d : Nat) : ∀ i,i + d = ls.length →
    Ev (fun k=>fO.l0 k p ls (i : Int)) (if (ls.drop i).all (fM p) then (if bK p then 0 else 2) else 1):=by
  induction d with
  | zero =>
    intro i hi
    refine Ev.step (fun k=>by rw [fO.l0]) ?_
    rw [List.drop_eq_nil_of_le (by omega)]
    refine Ev.neg (by omega) (Ev.bind (nC p) ?_)
    by_cases h : bK p = true
    · exact Ev.pos h (Ev.kJ (by simp [h]))
    · exact Ev.neg h (Ev.kJ (by simp [h]))
  | succ d ih =>
    intro i hi
    have hi' : i < ls.length:=by omega
    refine Ev.step (fun k=>by rw [fO.l0]) ?_
    refine Ev.pos (by omega) (Ev.pos (by omega) ?_)
    rw [ou,List.drop_eq_getElem_cons hi',List.all_cons,show ls.getD i [] = ls[i] from by rw [List.getD_eq_getElem?_getD,List.getElem?_eq_getElem hi'];rfl]
    refine Ev.bind (yx p _ (hl _ (List.getElem_mem hi'))) ?_
    by_cases h : fM p ls[i] = true
    · refine Ev.pos h ?_
      rw [h,Bool.true_and,jN (i:=i) (n:=ls.length) (by omega) (by unfold Sm at hs;omega)]
      exact ih (i + 1) (by omega)
    · refine Ev.neg h (Ev.kJ ?_)
      rw [Bool.eq_false_iff.2 h,Bool.false_and]
      rfl
theorem oJ (p : Int) (ls : List (List Int)) (hs : Sm ls.length) (hl : ∀ l ∈ ls,Sm l.length) : Ev (fun k=>fO.f k p ls) (if ls.all (fM p) then (if bK p then 0 else 2) else 1) :=
  wF p ls hs hl ls.length 0 (by omega)
theorem fM.pl {p : Int} {l : List Int} (h : fM p l = true) : Nm p l∧iQ l = l∧l.length ≤ 25:=by
  simp only [fM,tJ,Bool.and_eq_true,decide_eq_true_eq,Bool.or_eq_true,bne_iff_ne,ne_eq] at h
  obtain ⟨h1,h2,h3⟩:=h
  refine ⟨h1,?_,h2⟩
  rcases h3 with h3 | h3
  · rw [List.length_eq_zero_iff.1 h3];rfl
  · obtain ⟨l',x,rfl⟩ | rfl : (∃ l' x,l = l' ++ [x]) ∨ l = []:=by
      rcases List.eq_nil_or_concat l with h | ⟨l',x,h⟩
      · exact .inr h
      · exact .inl ⟨l',x,by simpa using h⟩
    · refine lY _ ?_
      simpa [List.getD] using h3
    · rfl
/- Lists without noughts at their end; no condition. -/
theorem xA {p : Int} (hp : Pm p) (x : Int) : iI.f p x = some (x % p):=by
  unfold iI.f
  rw [if_neg hp.ne,zk hp]

/-! ### noughts at the end -/
theorem wM (l : List Int) (x : Int) (m : List Int) : ((l ++ [x]) ++ m).getD l.length 0 = x:=by
  rw [List.append_assoc,List.getD_eq_getElem?_getD,List.getElem?_append_right (Nat.le_refl _),Nat.sub_self];rfl
theorem yz (l : List Int) : Sm l.length → Ev (fun k=>eQ.l0 k l) (iQ l):=by
  induction l using xw with
  | h0 =>
    intro _
    refine Ev.step (fun k=>by rw [eQ.l0]) ?_
    exact Ev.neg (by simp) (Ev.now _)
  | h1 l x ih =>
    intro hl
    have hn : (l ++ [x]).length = l.length + 1:=by simp
    rw [hn] at hl
    unfold Sm at hl
    have e : wrap64 (((l ++ [x]).length : Int) - 1) = (l.length : Int):=by rw [hn,bT (by omega) (by omega)];omega
    have er : rd (l ++ [x]) (l.length : Int) = x:=by
      rw [fI];have:=wM l x [];rwa [List.append_nil] at this
    refine Ev.step (fun k=>by rw [eQ.l0]) ?_
    rw [e,er]
    refine Ev.pos (by omega) (Ev.pos (by omega) (Ev.pos (by omega) ?_))
    by_cases hx : x = 0
    · refine Ev.pos hx (Ev.pos (by omega) ?_)
      rw [fT,List.take_left,hx,mr]
      exact ih (by unfold Sm;omega)
    · refine Ev.neg hx (Ev.kJ ?_)
      rw [lY l hx]
theorem om (l : List Int) (hl : Sm l.length) : Ev (fun k=>eQ.f k l) (iQ l):=by
  unfold eQ.f
  exact yz l hl
theorem yA (l : List Int) : ∀ m : List Int,Sm (l ++ m).length → Ev (fun k=>dV.l0 k (l ++ m) (l.length : Int)) (iQ l):=by
  induction l using xw with
  | h0 =>
    intro m hl
    refine Ev.step (fun k=>by rw [dV.l0]) ?_
    refine Ev.neg (by simp) (Ev.pos (by simp) (Ev.pos (by simp) (Ev.gY (vM _ (hl.take _)) (Ev.kJ ?_))))
    simp [vK]
  | h1 l x ih =>
    intro m hl
    have hn : (l ++ [x]).length = l.length + 1:=by simp
    have hl':=hl
    rw [List.length_append,hn] at hl'
    have hm : (l ++ [x] ++ m).length = l.length + 1 + m.length:=by rw [List.length_append,hn]
    unfold Sm at hl'
    have e : wrap64 (((l ++ [x]).length : Int) - 1) = (l.length : Int):=by rw [hn,bT (by omega) (by omega)];omega
    have er : rd ((l ++ [x]) ++ m) (l.length : Int) = x:=by
      rw [fI];exact wM l x m
    refine Ev.step (fun k=>by rw [dV.l0]) ?_
    rw [e,er]
    refine Ev.pos (by omega) (Ev.pos (by omega) (Ev.pos (by omega) ?_))
    by_cases hx : x = 0
    · refine Ev.pos hx ?_
      have:=ih ([x] ++ m) (by rw [← List.append_assoc];exact hl)
      rw [← List.append_assoc] at this
      rw [hx,mr]
      rw [hx] at this
      exact this
    · refine Ev.neg hx (Ev.pos (by omega) (Ev.pos (by omega) (Ev.gY (vM _ (hl.take _)) (Ev.kJ ?_))))
      rw [fT,List.take_left,lY l hx]
theorem l7 (l : List Int) (hl : Sm l.length) : Ev (fun k=>dV.f k l) (iQ l):=by
  unfold dV.f
  have:=yA l [] (by rw [List.append_nil];exact hl)
  rwa [List.append_nil] at this
theorem oV (l : List Int) : (iQ l).length ≤ l.length:=by
  obtain ⟨n,h⟩:=vL l
  have:=congrArg List.length h
  rw [List.length_append] at this
  omega
theorem Nm.iQ {p : Int} {l : List Int} (h : Nm p l) : Nm p (iQ l):=by
  obtain ⟨n,e⟩:=vL l
  intro x hx
  refine h x ?_
  rw [e]
  exact List.mem_append_left _ hx
/- Sums of polynomials modulo p: the program's side; no condition. -/
/-! ### sums -/
def p9 (p k : Int) (g : List Int) : Nat → Nat → List Int → List Int
  | 0,_,o=>o
  | d + 1,i,o=>p9 p k g d (i + 1) (o.set i ((o.getD i 0 + k * g.getD i 0) % p))
theorem BG (p k : Int) (g : List Int) (d : Nat) : ∀ i o,(p9 p k g d i o).length = o.length:=by
  induction d with
  | zero=>intro i o;rfl
  | succ d ih=>intro i o;rw [p9,ih,List.length_set]
theorem CU {p : Int} (hp : 0 < p) (k : Int) (g : List Int) (d : Nat) : ∀ i o,Nm p o → Nm p (p9 p k g d i o):=by
  induction d with
  | zero=>intro i o h;exact h
  | succ d ih=>intro i o h;exact ih _ _ (h.set (jQ hp _).1 (jQ hp _).2 i)
/-- The list that the sum begins with. -/
def nO (f : List Int) (n : Nat) : List Int:=f ++ List.replicate (n - f.length) 0
theorem nH (f : List Int) {n : Nat} (h : f.length ≤ n) : (nO f n).length = n:=by
  rw [nO,List.length_append,List.length_replicate];omega
theorem Nm.nO {p : Int} (hp : 0 < p) {f : List Int} (h : Nm p f) (n : Nat) : Nm p (nO f n):=h.append (Nm.zeros hp _)
/-- f and k times g. -/
def kW (p : Int) (f g : List Int) (k : Int) : List Int:=iQ (p9 p k g g.length 0 (nO f (max f.length g.length)))
theorem uU (p : Int) (f g : List Int) (k : Int) : (kW p f g k).length ≤ max f.length g.length:=by
  have:=oV (p9 p k g g.length 0 (nO f (max f.length g.length)))
  rw [BG,nH f (by omega)] at this
  exact this
theorem wX {p : Int} (hp : 0 < p) {f g : List Int} (hf : Nm p f) (k : Int) : Nm p (kW p f g k):=(CU hp k g _ _ _ (hf.nO hp _)).iQ
theorem zl (a b : Nat) : mx (a : Int) (b : Int) = ((max a b : Nat) : Int):=by
  unfold mx;split <;> omega
theorem CV {p k : Int} (hp : Pm p) (hk : 0 ≤ k∧k < p) (g : List Int) (hg : Nm p g) (d : Nat) : ∀ (i : Nat) (o : List Int),i + d = g.length → g.length ≤ o.length → Nm p o → Sm o.length →
    Ev (fun n=>dG.l0 n p k o g (g.length : Int) (i : Int)) (iQ (p9 p k g d i o)):=by
  induction d with
  | zero =>
    intro i o hi hl ho hs
    refine Ev.step (fun n=>by rw [dG.l0]) ?_
    exact Ev.neg (by omega) (Ev.bind (om o hs) (Ev.now _))
  | succ d ih =>
    intro i o hi hl ho hs
    have h1:=ho.get (i:=i) (by omega)
    have h2:=hg.get (i:=i) (by omega)
    have h3:=rU hp hk.1 hk.2 h2.1 h2.2
    have ht:=hp.top
    have hm:=jQ hp.pos (o.getD i 0 + k * g.getD i 0)
    have hs':=hs
    unfold Sm at hs'
    refine Ev.step (fun n=>by rw [dG.l0]) ?_
    refine Ev.pos (by omega) (Ev.pos (by omega) (Ev.pos (by omega) (Ev.pos (by omega) ?_)))
    rw [fI,fI,bT (x:=k * g.getD i 0) (by omega) (by omega),bT (by omega) (by omega)]
    refine Ev.gY (p8 hp _) ?_
    rw [jN (i:=i) (n:=g.length) (by omega) (by omega),fT]
    exact ih (i + 1) _ (by omega) (by rw [List.length_set];omega) (ho.set hm.1 hm.2 i) (by rw [List.length_set];exact hs)
theorem BH (f : List Int) {n : Nat} (h : f.length ≤ n) : cpy (List.replicate n 0) f = nO f n:=by
  unfold cpy nO
  rw [List.length_replicate,Nat.min_eq_left h,List.take_length,List.drop_replicate]
theorem o9 {p k : Int} (hp : Pm p) (hk : 0 ≤ k∧k < p) (f g : List Int) (hf : Nm p f) (hg : Nm p g) (sf : Sm f.length) (sg : Sm g.length) :
    Ev (fun n=>dG.f n p f g k) (kW p f g k):=by
  unfold dG.f
  unfold Sm at sf sg
  rw [zl,fT,BH f (by omega)]
  refine Ev.pos (by omega) (Ev.pos (by omega) ?_)
  exact CV hp hk g hg g.length 0 _ (by omega) (by rw [nH f (by omega)];omega) (hf.nO hp.pos _) (by rw [nH f (by omega)];unfold Sm;omega)
/- The degree of a polynomial; no condition. -/
theorem oU (l : List Int) (hl : Sm l.length) : fZ.f l = some ((l.length : Int) - 1):=by
  unfold Sm at hl
  unfold fZ.f dD.f
  rw [Option.bind_some,bT (by omega) (by omega)]
/- Sums of polynomials modulo p; no condition. -/
theorem CW {p k : Int} (hp : Pm p) (hk : 0 ≤ k∧k < p) (g : List Int) (hg : Nm p g) (d : Nat) : ∀ (i : Nat) (o : List Int),i + d = g.length → g.length ≤ o.length → Nm p o → Sm o.length →
    Ev (fun n=>bM.l1 n p g k o (i : Int)) (iQ (p9 p k g d i o)):=by
  induction d with
  | zero =>
    intro i o hi hl ho hs
    refine Ev.step (fun n=>by rw [bM.l1]) ?_
    exact Ev.neg (by omega) (Ev.bind (l7 o hs) (Ev.now _))
  | succ d ih =>
    intro i o hi hl ho hs
    have h1:=ho.get (i:=i) (by omega)
    have h2:=hg.get (i:=i) (by omega)
    have h3:=rU hp hk.1 hk.2 h2.1 h2.2
    have ht:=hp.top
    have hm:=jQ hp.pos (o.getD i 0 + k * g.getD i 0)
    have hs':=hs
    unfold Sm at hs'
    refine Ev.step (fun n=>by rw [bM.l1]) ?_
    refine Ev.pos (by omega) (Ev.pos (by omega) (Ev.pos (by omega) ?_))
    rw [fI,fI,bT (x:=k * g.getD i 0) (by omega) (by omega),bT (by omega) (by omega)]
    refine Ev.gY (xA hp _) ?_
    rw [jN (i:=i) (n:=g.length) (by omega) (by omega),fT]
    exact ih (i + 1) _ (by omega) (by rw [List.length_set];omega) (ho.set hm.1 hm.2 i) (by rw [List.length_set];exact hs)
theorem CX {p k : Int} (f g : List Int) (n : Nat) (r : List Int) (hn : f.length ≤ n) (hs : Sm n) (e : Ev (fun m=>bM.l1 m p g k (nO f n) 0) r) (d : Nat) : ∀ i,i + d = f.length →
    Ev (fun m=>bM.l0 m p f g k (f.take i ++ List.replicate (n - i) 0) (i : Int)) r:=by
  induction d with
  | zero =>
    intro i hi
    refine Ev.step (fun m=>by rw [bM.l0]) ?_
    refine Ev.neg (by omega) ?_
    rw [show i = f.length from by omega,List.take_length]
    exact e
  | succ d ih =>
    intro i hi
    unfold Sm at hs
    have hl : (f.take i ++ List.replicate (n - i) (0 : Int)).length = n:=by rw [List.length_append,List.length_take,List.length_replicate];omega
    refine Ev.step (fun m=>by rw [bM.l0]) ?_
    refine Ev.pos (by omega) (Ev.pos (by omega) (Ev.pos (by omega) ?_))
    rw [fI,fT,jN (i:=i) (n:=n) (by omega) (by omega)]
    have e2 : (f.take i ++ List.replicate (n - i) (0 : Int)).set i (f.getD i 0) = f.take (i + 1) ++ List.replicate (n - (i + 1)) 0:=by
      rw [List.set_append_right (h:=by rw [List.length_take];omega),List.length_take,show i - min i f.length = 0 from by omega,show n - i = (n - (i + 1)) + 1 from by omega,List.replicate_succ,List.set_cons_zero,List.take_add_one,List.append_assoc,List.getElem?_eq_getElem (by omega),List.getD_eq_getElem?_getD,List.getElem?_eq_getElem (by omega)]
      rfl
    rw [e2]
    exact ih (i + 1) (by omega)
theorem nJ {p k : Int} (hp : Pm p) (hk : 0 ≤ k∧k < p) (f g : List Int) (hf : Nm p f) (hg : Nm p g) (sf : Sm f.length) (sg : Sm g.length) :
    Ev (fun n=>bM.f n p f g k) (kW p f g k):=by
  unfold bM.f
  unfold Sm at sf sg
  rw [zl,fT]
  refine Ev.pos (by omega) (Ev.pos (by omega) ?_)
  have h1:=CW hp hk g hg g.length 0 (nO f (max f.length g.length)) (by omega) (by rw [nH f (by omega)];omega) (hf.nO hp.pos _) (by rw [nH f (by omega)];unfold Sm;omega)
  have h2:=CX f g (max f.length g.length) _ (by omega) (by unfold Sm;omega) h1 f.length 0 (by omega)
  rw [List.take_zero,List.nil_append,Nat.sub_zero] at h2
  exact h2
/- Products of polynomials modulo p; no condition. -/
/-! ### products -/
def mH (p c : Int) (g : List Int) (i : Nat) : Nat → Nat → List Int → List Int
  | 0,_,o=>o
  | d + 1,j,o=>mH p c g i d (j + 1) (o.set (i + j) ((o.getD (i + j) 0 + c * g.getD j 0) % p))
theorem jU (p c : Int) (g : List Int) (i d : Nat) : ∀ j o,(mH p c g i d j o).length = o.length:=by
  induction d with
  | zero=>intro j o;rfl
  | succ d ih=>intro j o;rw [mH,ih,List.length_set]
theorem mW {p : Int} (hp : 0 < p) (c : Int) (g : List Int) (i d : Nat) : ∀ j o,Nm p o → Nm p (mH p c g i d j o):=by
  induction d with
  | zero=>intro j o h;exact h
  | succ d ih=>intro j o h;exact ih _ _ (h.set (jQ hp _).1 (jQ hp _).2 _)
def nP (p : Int) (f g : List Int) : Nat → Nat → List Int → List Int
  | 0,_,o=>o
  | d + 1,i,o=>nP p f g d (i + 1) (mH p (f.getD i 0) g i g.length 0 o)
theorem zm (p : Int) (f g : List Int) (d : Nat) : ∀ i o,(nP p f g d i o).length = o.length:=by
  induction d with
  | zero=>intro i o;rfl
  | succ d ih=>intro i o;rw [nP,ih,jU]
theorem BI {p : Int} (hp : 0 < p) (f g : List Int) (d : Nat) : ∀ i o,Nm p o → Nm p (nP p f g d i o):=by
  induction d with
  | zero=>intro i o h;exact h
  | succ d ih=>intro i o h;exact ih _ _ (mW hp _ _ _ _ _ _ h)
/-- f times g. -/
def kI (p : Int) (f g : List Int) : List Int:=if f.length = 0 ∨ g.length = 0 then [] else iQ (nP p f g f.length 0 (List.replicate (f.length + g.length - 1) 0))
theorem pW (p : Int) (f g : List Int) : (kI p f g).length ≤ f.length + g.length - 1:=by
  unfold kI
  split
  · simp
  · have:=oV (nP p f g f.length 0 (List.replicate (f.length + g.length - 1) 0))
    rw [zm,List.length_replicate] at this
    exact this
theorem rM {p : Int} (hp : 0 < p) (f g : List Int) : Nm p (kI p f g):=by
  unfold kI
  split
  · exact Nm.nil p
  · exact (BI hp _ _ _ _ _ (Nm.zeros hp _)).iQ
theorem CY {p : Int} (hp : Pm p) (f g : List Int) (hg : Nm p g) (c : Int) (hc : 0 ≤ c∧c < p) (i : Nat) (r : List Int) (d : Nat) : ∀ (j : Nat) (o : List Int),j + d = g.length → i + g.length ≤ o.length → Nm p o → Sm o.length →
    Ev (fun n=>aW.l0 n p g (mH p c g i d j o) f (f.length : Int) (wrap64 ((i : Int) + 1))) r →
    Ev (fun n=>aW.l1 n p g o (i : Int) c f (f.length : Int) (i : Int) g (g.length : Int) (j : Int)) r:=by
  induction d with
  | zero =>
    intro j o hj hl ho hs e
    refine Ev.step (fun n=>by rw [aW.l1]) ?_
    exact Ev.neg (by omega) e
  | succ d ih =>
    intro j o hj hl ho hs e
    have h1:=ho.get (i:=i + j) (by omega)
    have h2:=hg.get (i:=j) (by omega)
    have h3:=rU hp hc.1 hc.2 h2.1 h2.2
    have ht:=hp.top
    have hm:=jQ hp.pos (o.getD (i + j) 0 + c * g.getD j 0)
    have hs':=hs
    unfold Sm at hs'
    have hw : wrap64 ((i : Int) + (j : Int)) = ((i + j : Nat) : Int):=Bz (n:=o.length) (by omega) (by omega)
    refine Ev.step (fun n=>by rw [aW.l1]) ?_
    rw [hw]
    have c1 : (j : Int) < (g.length : Int):=by clear h1 h2 h3 hm hw e;omega
    have c2 : (0 : Int) ≤ (j : Int):=by clear h1 h2 h3 hm hw e;omega
    have c3 : (0 : Int) ≤ ((i + j : Nat) : Int):=by clear h1 h2 h3 hm hw e;omega
    have c4 : ((i + j : Nat) : Int) < (o.length : Int):=by clear h1 h2 h3 hm hw e;omega
    refine Ev.pos c1 (Ev.pos c2 (Ev.pos c1 (Ev.pos c3 (Ev.pos c4 ?_))))
    rw [fI,fI,bT (x:=c * g.getD j 0) (by omega) (by omega),bT (by omega) (by omega)]
    refine Ev.gY (p8 hp _) ?_
    rw [jN (i:=j) (n:=g.length) (by clear h1 h2 h3 hm hw e;omega) (by clear h1 h2 h3 hm hw e;omega),fT]
    exact ih (j + 1) _ (by clear h1 h2 h3 hm hw e;omega) (by rw [List.length_set];clear h1 h2 h3 hm hw e;omega) (ho.set hm.1 hm.2 _) (by rw [List.length_set];exact hs) e
theorem CZ {p : Int} (hp : Pm p) (f g : List Int) (hf : Nm p f) (hg : Nm p g) (d : Nat) : ∀ (i : Nat) (o : List Int),i + d = f.length → f.length + g.length ≤ o.length + 1 → Nm p o → Sm o.length →
    Ev (fun n=>aW.l0 n p g o f (f.length : Int) (i : Int)) (iQ (nP p f g d i o)):=by
  induction d with
  | zero =>
    intro i o hi hl ho hs
    refine Ev.step (fun n=>by rw [aW.l0]) ?_
    exact Ev.neg (by omega) (Ev.bind (om o hs) (Ev.now _))
  | succ d ih =>
    intro i o hi hl ho hs
    have hs':=hs
    unfold Sm at hs'
    refine Ev.step (fun n=>by rw [aW.l0]) ?_
    refine Ev.pos (by omega) (Ev.pos (by omega) (Ev.pos (by omega) ?_))
    rw [fI]
    refine CY hp f g hg _ (hf.get (i:=i) (by omega)) i _ g.length 0 o (by omega) (by omega) ho hs ?_
    by_cases hg0 : f.length ≤ 4611686018427387903
    · rw [jN (i:=i) (n:=f.length) (by omega) (by omega)]
      exact ih (i + 1) _ (by omega) (by rw [jU];exact hl) (mW hp.pos _ _ _ _ _ _ ho) (by rw [jU];exact hs)
    · omega
theorem pu {p : Int} (hp : Pm p) (f g : List Int) (hf : Nm p f) (hg : Nm p g) (sf : Sm f.length) (sg : Sm g.length) (sfg : Sm (f.length + g.length)) :
    Ev (fun n=>aW.f n p f g) (kI p f g):=by
  unfold aW.f kI
  unfold Sm at sf sg sfg
  by_cases h1 : f.length = 0
  · rw [if_pos (Or.inl h1)]
    refine Ev.pos (by omega) ?_
    refine Ev.step (fun n=>by rw [aW.j0]) ?_
    exact Ev.pos rfl (Ev.now _)
  · refine Ev.neg (by omega) ?_
    by_cases h2 : g.length = 0
    · rw [if_pos (Or.inr h2),show ((g.length : Int) == 0) = true from by simp [h2]]
      refine Ev.step (fun n=>by rw [aW.j0]) ?_
      exact Ev.pos rfl (Ev.now _)
    · rw [if_neg (by omega),show ((g.length : Int) == 0) = false from by simp;exact fun h=>h2 (by simp [h])]
      refine Ev.step (fun n=>by rw [aW.j0]) ?_
      have e : wrap64 (wrap64 ((f.length : Int) + (g.length : Int)) - 1) = ((f.length + g.length - 1 : Nat) : Int):=by
        rw [bT (x:=(f.length : Int) + (g.length : Int)) (by omega) (by omega),bT (by omega) (by omega)];omega
      rw [e,fT]
      refine Ev.neg (by decide) (Ev.pos (by omega) (Ev.pos (by omega) ?_))
      exact CZ hp f g hf hg f.length 0 _ (by omega) (by rw [List.length_replicate];omega) (Nm.zeros hp.pos _) (by rw [List.length_replicate];unfold Sm;omega)
theorem C8 {p : Int} (hp : Pm p) (f g : List Int) (hf : Nm p f) (hg : Nm p g) (i : Nat) (hi : i < f.length) (r : List Int) (d : Nat) : ∀ (j : Nat) (o : List Int),j + d = g.length → i + g.length ≤ o.length → Nm p o → Sm o.length →
    Ev (fun n=>bz.l0 n p f g (mH p (f.getD i 0) g i d j o) (wrap64 ((i : Int) + 1))) r →
    Ev (fun n=>bz.l1 n p f g o (i : Int) (j : Int)) r:=by
  induction d with
  | zero =>
    intro j o hj hl ho hs e
    refine Ev.step (fun n=>by rw [bz.l1]) ?_
    exact Ev.neg (by omega) e
  | succ d ih =>
    intro j o hj hl ho hs e
    have hc:=hf.get (i:=i) hi
    have h1:=ho.get (i:=i + j) (by omega)
    have h2:=hg.get (i:=j) (by omega)
    have h3:=rU hp hc.1 hc.2 h2.1 h2.2
    have ht:=hp.top
    have hm:=jQ hp.pos (o.getD (i + j) 0 + f.getD i 0 * g.getD j 0)
    have hs':=hs
    unfold Sm at hs'
    have hw : wrap64 ((i : Int) + (j : Int)) = ((i + j : Nat) : Int):=Bz (n:=o.length) (by omega) (by omega)
    refine Ev.step (fun n=>by rw [bz.l1]) ?_
    rw [hw]
    have c1 : (j : Int) < (g.length : Int):=by clear h1 h2 h3 hm hw e;omega
    have c2 : (0 : Int) ≤ (j : Int):=by clear h1 h2 h3 hm hw e;omega
    have c3 : (0 : Int) ≤ ((i + j : Nat) : Int):=by clear h1 h2 h3 hm hw e;omega
    have c4 : ((i + j : Nat) : Int) < (o.length : Int):=by clear h1 h2 h3 hm hw e;omega
    have c5 : (0 : Int) ≤ (i : Int):=by clear h1 h2 h3 hm hw e;omega
    have c6 : (i : Int) < (f.length : Int):=by clear h1 h2 h3 hm hw e;omega
    refine Ev.pos c1 (Ev.pos c3 (Ev.pos c4 (Ev.pos c5 (Ev.pos c6 (Ev.pos c2 (Ev.neg hp.ne ?_))))))
    rw [fI,fI,fI,bT (x:=f.getD i 0 * g.getD j 0) (by omega) (by omega),bT (by omega) (by omega),jk (by omega),jN (i:=j) (n:=g.length) (by clear h1 h2 h3 hm hw e;omega) (by clear h1 h2 h3 hm hw e;omega),fT]
    exact ih (j + 1) _ (by clear h1 h2 h3 hm hw e;omega) (by rw [List.length_set];clear h1 h2 h3 hm hw e;omega) (ho.set hm.1 hm.2 _) (by rw [List.length_set];exact hs) e
theorem C9 {p : Int} (hp : Pm p) (f g : List Int) (hf : Nm p f) (hg : Nm p g) (d : Nat) : ∀ (i : Nat) (o : List Int),i + d = f.length → f.length + g.length ≤ o.length + 1 → Nm p o → Sm o.length →
    Ev (fun n=>bz.l0 n p f g o (i : Int)) (iQ (nP p f g d i o)):=by
  induction d with
  | zero =>
    intro i o hi hl ho hs
    refine Ev.step (fun n=>by rw [bz.l0]) ?_
    exact Ev.neg (by omega) (Ev.bind (l7 o hs) (Ev.now _))
  | succ d ih =>
    intro i o hi hl ho hs
    have hs':=hs
    unfold Sm at hs'
    refine Ev.step (fun n=>by rw [bz.l0]) ?_
    refine Ev.pos (by omega) ?_
    refine C8 hp f g hf hg i (by omega) _ g.length 0 o (by omega) (by omega) ho hs ?_
    by_cases hg0 : f.length ≤ 4611686018427387903
    · rw [jN (i:=i) (n:=f.length) (by omega) (by omega)]
      exact ih (i + 1) _ (by omega) (by rw [jU];exact hl) (mW hp.pos _ _ _ _ _ _ ho) (by rw [jU];exact hs)
    · omega
theorem nK {p : Int} (hp : Pm p) (f g : List Int) (hf : Nm p f) (hg : Nm p g) (sf : Sm f.length) (sg : Sm g.length) (sfg : Sm (f.length + g.length)) :
    Ev (fun n=>bz.f n p f g) (kI p f g):=by
  unfold bz.f kI
  unfold Sm at sf sg sfg
  by_cases h1 : f.length = 0
  · rw [if_pos (Or.inl h1)]
    refine Ev.pos (by omega) ?_
    refine Ev.step (fun n=>by rw [bz.j0]) ?_
    exact Ev.pos rfl (Ev.now _)
  · refine Ev.neg (by omega) ?_
    by_cases h2 : g.length = 0
    · rw [if_pos (Or.inr h2),show ((g.length : Int) == 0) = true from by simp [h2]]
      refine Ev.step (fun n=>by rw [bz.j0]) ?_
      exact Ev.pos rfl (Ev.now _)
    · rw [if_neg (by omega),show ((g.length : Int) == 0) = false from by simp;exact fun h=>h2 (by simp [h])]
      refine Ev.step (fun n=>by rw [bz.j0]) ?_
      have e : wrap64 (wrap64 ((f.length : Int) + (g.length : Int)) - 1) = ((f.length + g.length - 1 : Nat) : Int):=by
        rw [bT (x:=(f.length : Int) + (g.length : Int)) (by omega) (by omega),bT (by omega) (by omega)];omega
      rw [e,fT]
      refine Ev.neg (by decide) (Ev.pos (by omega) (Ev.pos (by omega) ?_))
      exact C9 hp f g hf hg f.length 0 _ (by omega) (by rw [List.length_replicate];omega) (Nm.zeros hp.pos _) (by rw [List.length_replicate];unfold Sm;omega)
/- One step of a recurrence: (x - a) f - b g, and the program's function for it; no condition. -/

/- Lists that begin a recurrence's step: monic stays monic; no condition. -/
theorem getD_set_ne {l : List Int} {i j : Nat} {x : Int} (h : i ≠ j) : (l.set i x).getD j 0 = l.getD j 0:=by
  rw [List.getD_eq_getElem?_getD,List.getElem?_set_ne h,List.getD_eq_getElem?_getD]
theorem um {l : List Int} {i : Nat} {x : Int} (h : i < l.length) : (l.set i x).getD i 0 = x:=by
  rw [List.getD_eq_getElem?_getD,List.getElem?_set_self h];rfl
theorem EQ {l : List Int} {n : Nat} (hl : l.length = n + 1) (h : l.getD n 0 ≠ 0) : iQ l = l:=by
  have hne : l ≠ []:=by intro e;rw [e] at hl;simp at hl
  have e:=List.dropLast_concat_getLast hne
  have hlast : l.getLast hne = l.getD n 0:=by
    rw [List.getLast_eq_getElem,List.getD_eq_getElem?_getD,List.getElem?_eq_getElem (by omega)]
    simp [hl]
  rw [← e,lY _ (by rw [hlast];exact h)]
/- Coefficients: a product's are the convolution's rests, trimmed lists of the same coefficients are the same, products commute; no condition. -/
theorem lK (l : List Int) (k : Nat) : (iQ l).getD k 0 = l.getD k 0:=by
  obtain ⟨n,h⟩:=vL l
  have e : l.getD k 0 = (iQ l ++ List.replicate n 0).getD k 0:=congrArg (fun x=>x.getD k 0) h
  rw [e]
  simp only [List.getD_eq_getElem?_getD]
  by_cases hk : k < (iQ l).length
  · rw [List.getElem?_append_left hk]
  · rw [List.getElem?_append_right (by omega),List.getElem?_eq_none (by omega)]
    by_cases h2 : k - (iQ l).length < n
    · rw [List.getElem?_replicate,if_pos h2];rfl
    · rw [List.getElem?_replicate,if_neg h2]
theorem qF (n : Nat) : ∀ l : List Int,l.length = n → 0 < (iQ l).length → (iQ l).getD ((iQ l).length - 1) 0 ≠ 0:=by
  induction n with
  | zero =>
    intro l hl h
    rw [List.length_eq_zero_iff.1 hl,vK] at h
    exact absurd h (by simp)
  | succ n ih =>
    intro l hl
    have hne : l ≠ []:=fun e=>by rw [e] at hl;simp at hl
    have hd:=List.dropLast_concat_getLast hne
    have hln : l.dropLast.length = n:=by rw [List.length_dropLast];omega
    generalize l.dropLast = a at hd hln
    generalize l.getLast hne = x at hd
    subst hd
    by_cases hx : x = 0
    · subst hx
      rw [mr]
      exact ih a hln
    · rw [lY a hx]
      intro _
      simp [hx]
theorem r9 {l m : List Int} (h : ∀ k,l.getD k 0 = m.getD k 0) : iQ l = iQ m:=by
  have hg : ∀ k,(iQ l).getD k 0 = (iQ m).getD k 0:=fun k=>by rw [lK,lK,h k]
  have zero : ∀ (a : List Int) (k : Nat),a.length ≤ k → a.getD k 0 = 0:=fun a k hk=>by rw [List.getD_eq_getElem?_getD,List.getElem?_eq_none hk];rfl
  have hlen : (iQ l).length = (iQ m).length:=by
    rcases Nat.lt_trichotomy (iQ l).length (iQ m).length with g | g | g
    · have h1:=qF _ m rfl (by omega)
      rw [← hg,zero _ _ (by omega)] at h1
      exact absurd rfl h1
    · exact g
    · have h1:=qF _ l rfl (by omega)
      rw [hg,zero _ _ (by omega)] at h1
      exact absurd rfl h1
  apply List.ext_getElem hlen
  intro i h1 h2
  have h3:=hg i
  rw [List.getD_eq_getElem?_getD,List.getD_eq_getElem?_getD,List.getElem?_eq_getElem h1,List.getElem?_eq_getElem h2] at h3
  exact h3
/-- The number k of x^i g. -/
def sh (g : List Int) (i k : Nat) : Int:=if i ≤ k then g.getD (k - i) 0 else 0
theorem vO (a : List Int) {k : Nat} (hk : a.length ≤ k) : a.getD k 0 = 0:=by rw [List.getD_eq_getElem?_getD,List.getElem?_eq_none hk];rfl
theorem Au (o : List Int) (n k : Nat) (x : Int) (hn : n < o.length) : (o.set n x).getD k 0 = if k = n then x else o.getD k 0:=by
  simp only [List.getD_eq_getElem?_getD]
  by_cases h : k = n
  · subst h;rw [List.getElem?_set_self hn,if_pos rfl];rfl
  · rw [List.getElem?_set_ne (Ne.symm h),if_neg h]
theorem BJ (p c : Int) (g : List Int) (i d : Nat) : ∀ (j : Nat) (o : List Int),j + d = g.length → i + g.length ≤ o.length → ∀ k,(mH p c g i d j o).getD k 0 = if i + j ≤ k∧k < i + g.length then (o.getD k 0 + c * g.getD (k - i) 0) % p else o.getD k 0:=by
  induction d with
  | zero =>
    intro j o hj ho k
    rw [mH,if_neg (by omega)]
  | succ d ih =>
    intro j o hj ho k
    rw [mH,ih (j + 1) _ (by omega) (by rw [List.length_set];exact ho) k,Au _ _ _ _ (by omega)]
    by_cases h1 : k = i + j
    · rw [if_neg (by omega),if_pos h1,if_pos (by omega),h1,show i + j - i = j from by omega]
    · rw [if_neg h1]
      by_cases h2 : i + (j + 1) ≤ k∧k < i + g.length
      · rw [if_pos h2,if_pos (by omega)]
      · rw [if_neg h2,if_neg (by omega)]
theorem yB {p : Int} (hp : 0 < p) (c : Int) (g : List Int) (i : Nat) (o : List Int) (ho : i + g.length ≤ o.length) (hn : Nm p o) (k : Nat) : (mH p c g i g.length 0 o).getD k 0 = (o.getD k 0 + c * sh g i k) % p:=by
  rw [BJ p c g i g.length 0 o (by omega) ho k,sh]
  have hb:=hn.mq hp k
  by_cases h : i ≤ k
  · rw [if_pos h]
    by_cases h2 : k < i + g.length
    · rw [if_pos (by omega)]
    · rw [if_neg (by omega),vO g (k:=k - i) (by omega),Int.mul_zero,Int.add_zero,Int.emod_eq_of_lt hb.1 hb.2]
  · rw [if_neg (by omega),if_neg h,Int.mul_zero,Int.add_zero,Int.emod_eq_of_lt hb.1 hb.2]
theorem o8 (a b p : Int) : (a % p + b) % p = (a + b) % p:=by rw [Int.add_emod,Int.emod_emod,← Int.add_emod]
theorem BK {g : Nat → Int} {n : Nat} (h : ∀ i,i < n → g i = 0) : sumTo g n = 0:=by
  induction n with
  | zero=>rfl
  | succ n ih=>rw [sumTo,ih (fun i hi=>h i (by omega)),h n (by omega),Int.add_zero]
theorem yC (h : Nat → Int) (n : Nat) : sumTo h (n + 1) = h 0 + sumTo (fun t=>h (t + 1)) n:=by
  induction n with
  | zero=>simp [sumTo]
  | succ n ih =>
    rw [sumTo,ih,sumTo,Int.add_assoc]
theorem zn {p : Int} (hp : 0 < p) (f g : List Int) (d : Nat) : ∀ (i : Nat) (o : List Int),i + d = f.length → f.length + g.length ≤ o.length + 1 → Nm p o → ∀ k,(nP p f g d i o).getD k 0 = (o.getD k 0 + sumTo (fun t=>f.getD (i + t) 0 * sh g (i + t) k) d) % p:=by
  induction d with
  | zero =>
    intro i o hi ho hn k
    have hb:=hn.mq hp k
    rw [nP,sumTo,Int.add_zero,Int.emod_eq_of_lt hb.1 hb.2]
  | succ d ih =>
    intro i o hi ho hn k
    rw [nP,ih (i + 1) _ (by omega) (by rw [jU];exact ho) (mW hp _ _ _ _ _ _ hn) k,yB hp _ _ _ _ (by omega) hn,o8,yC,Int.add_assoc]
    simp only [Nat.add_zero,Nat.add_assoc,Nat.add_comm 1]
theorem Dk {g : List Int} {i k : Nat} (h : i + g.length ≤ k) : sh g i k = 0:=by
  rw [sh,if_pos (by omega),vO g (by omega)]
/-- A product's numbers. -/
theorem Dl {p : Int} (hp : 0 < p) (f g : List Int) (k : Nat) : (kI p f g).getD k 0 = sumTo (fun t=>f.getD t 0 * sh g t k) f.length % p:=by
  unfold kI
  split
  · rename_i h
    have hz : ∀ t,t < f.length → f.getD t 0 * sh g t k = 0:=fun t ht=>by
      rcases h with h | h
      · omega
      · have : sh g t k = 0:=by
          unfold sh
          split
          · exact vO g (by omega)
          · rfl
        rw [this,Int.mul_zero]
    rw [BK hz];simp
  · rename_i h
    rw [lK,zn hp f g f.length 0 _ (by omega) (by rw [List.length_replicate];omega) (Nm.zeros hp _) k]
    have hz : (List.replicate (f.length + g.length - 1) (0 : Int)).getD k 0 = 0:=by
      rw [List.getD_eq_getElem?_getD,List.getElem?_replicate]
      split <;> rfl
    rw [hz,Int.zero_add]
    simp only [Nat.zero_add]
theorem zo {h : Nat → Int} {n : Nat} (hz : ∀ t,n ≤ t → h t = 0) (d : Nat) : sumTo h (n + d) = sumTo h n:=by
  induction d with
  | zero=>rfl
  | succ d ih=>rw [← Nat.add_assoc,sumTo,ih,hz _ (by omega),Int.add_zero]
theorem sumTo_congr {g h : Nat → Int} (n : Nat) (e : ∀ t,t < n → g t = h t) : sumTo g n = sumTo h n:=by
  induction n with
  | zero=>rfl
  | succ n ih=>rw [sumTo,sumTo,ih (fun t ht=>e t (by omega)),e n (by omega)]
theorem sZ (p : Int) (f g : List Int) : iQ (kI p f g) = kI p f g:=by
  have tt : ∀ l : List Int,iQ (iQ l) = iQ l:=fun l=>r9 (fun k=>lK l k)
  unfold kI
  split
  · exact vK
  · exact tt _
/- Coefficients of a sum of polynomials. -/
theorem BL (p c : Int) (g : List Int) (d : Nat) : ∀ (i : Nat) (o : List Int),i + d ≤ o.length → ∀ j,(p9 p c g d i o).getD j 0 = if i ≤ j∧j < i + d then (o.getD j 0 + c * g.getD j 0) % p else o.getD j 0:=by
  induction d with
  | zero =>
    intro i o h j
    rw [p9,if_neg (by omega)]
  | succ d ih =>
    intro i o h j
    rw [p9,ih (i + 1) _ (by rw [List.length_set];omega) j,Au _ _ _ _ (by omega)]
    by_cases h1 : j = i
    · subst h1
      rw [if_neg (by omega),if_pos rfl,if_pos (by omega)]
    · rw [if_neg h1]
      by_cases h2 : i + 1 ≤ j∧j < i + 1 + d
      · rw [if_pos h2,if_pos (by omega)]
      · rw [if_neg h2,if_neg (by omega)]
theorem BM (f : List Int) (n j : Nat) : (nO f n).getD j 0 = f.getD j 0:=by
  unfold nO
  simp only [List.getD_eq_getElem?_getD]
  by_cases h : j < f.length
  · rw [List.getElem?_append_left h]
  · rw [List.getElem?_append_right (by omega),List.getElem?_replicate,List.getElem?_eq_none (l:=f) (by omega)]
    split <;> rfl
theorem oQ {f : List Int} {j : Nat} (h : f.length ≤ j) : f.getD j 0 = 0:=by rw [List.getD_eq_getElem?_getD,List.getElem?_eq_none h];rfl
theorem Dm {p : Int} (hp : 0 < p) {f : List Int} (g : List Int) (k : Int) (hf : Nm p f) (j : Nat) : (kW p f g k).getD j 0 = (f.getD j 0 + k * g.getD j 0) % p:=by
  unfold kW
  rw [lK,BL p k g g.length 0 _ (by rw [nH f (by omega)];omega),BM]
  by_cases h : j < g.length
  · rw [if_pos ⟨Nat.zero_le _,by omega⟩]
  · rw [if_neg (by omega),oQ (f:=g) (by omega),Int.mul_zero,Int.add_zero]
    have:=hf.mq hp j
    exact (Int.emod_eq_of_lt this.1 this.2).symm
theorem tq (l : List Int) : iQ (iQ l) = iQ l:=r9 (fun k=>by rw [lK])
/- Powers modulo p: what the program and the reference compute; no condition. -/
theorem qG {p : Int} (hp : Pm p) {x y : Int} (hx : 0 ≤ x∧x < p) (hy : 0 ≤ y∧y < p) : fw.f p x y = some (x * y % p):=by
  unfold fw.f
  have h:=rU hp hx.1 hx.2 hy.1 hy.2
  rw [bT (by omega) (by omega),p8 hp];rfl
def pU (p : Int) : Nat → Int → Nat → Int → Int
  | 0,_,_,o=>o
  | d + 1,x,k,o=>if k = 0 then o else pU p d (x * x % p) (k / 2) (if k % 2 = 1 then o * x % p else o)
theorem Dn {p : Int} (hp : 0 < p) (d : Nat) : ∀ (x : Int) (k : Nat) (o : Int),0 ≤ o∧o < p → 0 ≤ pU p d x k o∧pU p d x k o < p:=by
  induction d with
  | zero=>intro x k o h;exact h
  | succ d ih =>
    intro x k o h
    rw [pU]
    split
    · exact h
    · refine ih _ _ _ ?_
      split
      · exact jQ hp _
      · exact h
theorem half {k : Nat} (h : k < 4611686018427387904) : wrap64 (Int.tdiv (k : Int) 2) = ((k / 2 : Nat) : Int):=by
  rw [Int.tdiv_eq_ediv_of_nonneg (by omega),bT (by omega) (by omega)];omega
theorem odd (k : Nat) : Int.tmod (k : Int) 2 = ((k % 2 : Nat) : Int):=by rw [jk (by omega)];omega
theorem zq {p : Int} (hp : Pm p) (d : Nat) : ∀ (x : Int) (k : Nat) (o : Int),k ≤ d → k < 4611686018427387904 → 0 ≤ x∧x < p → 0 ≤ o∧o < p →
    Ev (fun n=>dW.l0 n p x (k : Int) o) (pU p d x k o):=by
  induction d with
  | zero =>
    intro x k o hk hk2 hx ho
    refine Ev.step (fun n=>by rw [dW.l0]) ?_
    exact Ev.neg (by omega) (Ev.now _)
  | succ d ih =>
    intro x k o hk hk2 hx ho
    rw [pU]
    by_cases h : k = 0
    · rw [if_pos h]
      refine Ev.step (fun n=>by rw [dW.l0]) ?_
      exact Ev.neg (by omega) (Ev.now _)
    · rw [if_neg h]
      refine Ev.step (fun n=>by rw [dW.l0]) ?_
      refine Ev.pos (by omega) ?_
      rw [odd,half hk2]
      by_cases g : k % 2 = 1
      · rw [if_pos g]
        refine Ev.pos (by omega) (Ev.gY (qG hp ho hx) (Ev.gY (qG hp hx hx) ?_))
        exact ih _ _ _ (by omega) (by omega) (jQ hp.pos _) (jQ hp.pos _)
      · rw [if_neg g]
        refine Ev.neg (by omega) (Ev.gY (qG hp hx hx) ?_)
        exact ih _ _ _ (by omega) (by omega) (jQ hp.pos _) ho
theorem zt {p : Int} (hp : Pm p) (d : Nat) : ∀ (x : Int) (k : Nat) (o : Int),k ≤ d → k < 4611686018427387904 → 0 ≤ x∧x < p → 0 ≤ o∧o < p →
    Ev (fun n=>fD.l0 n p (k : Int) o x) (pU p d x k o):=by
  induction d with
  | zero =>
    intro x k o hk hk2 hx ho
    refine Ev.step (fun n=>by rw [fD.l0]) ?_
    refine Ev.neg (by omega) (Ev.neg hp.ne (Ev.kJ ?_))
    rw [jk ho.1,Int.emod_eq_of_lt ho.1 ho.2];rfl
  | succ d ih =>
    intro x k o hk hk2 hx ho
    have h1:=rU hp hx.1 hx.2 hx.1 hx.2
    have h2:=rU hp ho.1 ho.2 hx.1 hx.2
    rw [pU]
    by_cases h : k = 0
    · rw [if_pos h]
      refine Ev.step (fun n=>by rw [fD.l0]) ?_
      refine Ev.neg (by omega) (Ev.neg hp.ne (Ev.kJ ?_))
      rw [jk ho.1,Int.emod_eq_of_lt ho.1 ho.2]
    · rw [if_neg h]
      refine Ev.step (fun n=>by rw [fD.l0]) ?_
      refine Ev.pos (by omega) ?_
      rw [odd,half hk2,bT (x:=x * x) (by omega) (by omega),bT (x:=o * x) (by omega) (by omega),jk (a:=x * x) (by omega),jk (a:=o * x) (by omega)]
      by_cases g : k % 2 = 1
      · rw [if_pos g]
        refine Ev.pos (by omega) (Ev.neg hp.ne ?_)
        exact ih _ _ _ (by omega) (by omega) (jQ hp.pos _) (jQ hp.pos _)
      · rw [if_neg g]
        refine Ev.neg (by omega) (Ev.neg hp.ne ?_)
        exact ih _ _ _ (by omega) (by omega) (jQ hp.pos _) ho
/-- x to the k-th power modulo p. -/
def xC (p x : Int) (k : Nat) : Int:=pU p k x k 1
theorem ER {p : Int} (hp : Pm p) (x : Int) (k : Nat) : 0 ≤ xC p x k∧xC p x k < p:=Dn hp.pos _ _ _ _ (by have:=hp.two;omega)
theorem zu {p : Int} (hp : Pm p) {x : Int} (hx : 0 ≤ x∧x < p) (k : Nat) (hk : k < 4611686018427387904) : Ev (fun n=>dW.f n p x (k : Int)) (xC p x k):=by
  have h2:=hp.two
  unfold dW.f xC
  refine Ev.gY (p8 hp _) ?_
  rw [Int.emod_eq_of_lt (by omega) (by omega)]
  exact zq hp k x k 1 (Nat.le_refl _) hk hx (by omega)
theorem zw {p : Int} (hp : Pm p) {x : Int} (hx : 0 ≤ x∧x < p) (k : Nat) (hk : k < 4611686018427387904) : Ev (fun n=>fD.f n p x (k : Int)) (xC p x k):=by
  have h2:=hp.two
  unfold fD.f xC
  refine Ev.gY (a:=x) ?_ (zt hp k x k 1 (Nat.le_refl _) hk hx (by omega))
  unfold iI.f
  rw [if_neg hp.ne,zk hp,Int.emod_eq_of_lt hx.1 hx.2]
/- Inverses and quotients modulo p: what the program and the reference compute; no condition. -/
/-- The power p - 2. -/
def iR (p x : Int) : Int:=xC p x (p.toNat - 2)
theorem pq {p : Int} (hp : Pm p) (x : Int) : 0 ≤ iR p x∧iR p x < p:=ER hp _ _
theorem Av {p : Int} (hp : Pm p) : wrap64 (p - 2) = ((p.toNat - 2 : Nat) : Int):=by
  have:=hp.two
  have:=hp.top
  rw [bT (by omega) (by omega)]
  omega
theorem qY {p : Int} (hp : Pm p) {x : Int} (hx : 0 ≤ x∧x < p) : Ev (fun n=>fP.f n p x) (iR p x):=by
  have:=hp.top
  unfold fP.f iR
  rw [Av hp]
  exact Ev.bind (zu hp hx _ (by omega)) (Ev.now _)
theorem qZ {p : Int} (hp : Pm p) {x : Int} (hx : 0 ≤ x∧x < p) : Ev (fun n=>gH.f n p x) (iR p x):=by
  have:=hp.top
  unfold gH.f iR
  rw [Av hp]
  exact Ev.bind (zw hp hx _ (by omega)) (Ev.now _)
/- Quotients modulo p in the program; no condition. -/
theorem zx {p : Int} (hp : Pm p) {x y : Int} (hx : 0 ≤ x∧x < p) (hy : 0 ≤ y∧y < p) : Ev (fun n=>jA.f n p x y) (x * iR p y % p):=by
  unfold jA.f
  exact Ev.bind (qY hp hy) (Ev.gY (qG hp hx (pq hp y)) (Ev.now _))
/- Powers modulo p are the rests of powers; no condition. -/
theorem su {p : Int} (a : Int) (m : Nat) : ∀ o : Int,(o * (a % p) ^ m) % p = (o * a ^ m) % p:=by
  induction m with
  | zero=>intro o;rw [Int.pow_zero,Int.pow_zero]
  | succ m ih =>
    intro o
    rw [Int.pow_succ,Int.pow_succ,Int.mul_comm ((a % p) ^ m),← Int.mul_assoc,ih,Int.mul_assoc,Int.mul_comm (a % p),← Int.mul_assoc,Int.mul_emod,Int.emod_emod,← Int.mul_emod,Int.mul_assoc]
theorem sq_pow (x : Int) (m : Nat) : (x * x) ^ m = x ^ (2 * m):=by
  induction m with
  | zero=>rw [Int.pow_zero,Nat.mul_zero,Int.pow_zero]
  | succ m ih=>rw [Int.pow_succ,ih,show 2 * (m + 1) = 2 * m + 1 + 1 from by omega,Int.pow_succ,Int.pow_succ,Int.mul_assoc]
theorem Dp {p : Int} (hp : 0 < p) (d : Nat) : ∀ (x : Int) (k : Nat) (o : Int),k ≤ d → 0 ≤ o∧o < p → pU p d x k o = (o * x ^ k) % p:=by
  induction d with
  | zero =>
    intro x k o hk ho
    obtain rfl : k = 0:=by omega
    rw [pU,Int.pow_zero,Int.mul_one,Int.emod_eq_of_lt ho.1 ho.2]
  | succ d ih =>
    intro x k o hk ho
    rw [pU]
    by_cases h : k = 0
    · subst h;rw [if_pos rfl,Int.pow_zero,Int.mul_one,Int.emod_eq_of_lt ho.1 ho.2]
    · rw [if_neg h]
      by_cases g : k % 2 = 1
      · rw [if_pos g,ih _ _ _ (by omega) (jQ hp _),su,sq_pow,Int.mul_emod,Int.emod_emod,← Int.mul_emod,Int.mul_assoc,Int.mul_comm x,← Int.pow_succ,show (2 * (k / 2)).succ = k from by omega]
      · rw [if_neg g,ih _ _ _ (by omega) ho,su,sq_pow,show 2 * (k / 2) = k from by omega]
theorem ES {p : Int} (hp : Pm p) (x : Int) (k : Nat) : xC p x k = x ^ k % p:=by
  have:=hp.two
  rw [xC,Dp hp.pos k x k 1 (Nat.le_refl _) (by omega),Int.one_mul]
/- The first numbers of a quotient: the program's and the reference's; no condition. -/
def nM (p : Int) (g o : List Int) (k : Nat) : Nat → Nat → Int → Int
  | 0,_,s=>s
  | d + 1,i,s=>nM p g o k d (i + 1) ((s - g.getD i 0 * o.getD (k - i) 0) % p)
theorem BN (p : Int) (g o z : List Int) (k d : Nat) (hk : o.length = k) : ∀ (i : Nat) (s : Int),1 ≤ i → i + d ≤ k + 1 → nM p g (o ++ z) k d i s = nM p g o k d i s:=by
  induction d with
  | zero=>intro i s h1 h2;rfl
  | succ d ih =>
    intro i s h1 h2
    rw [nM,nM,ih (i + 1) _ (by omega) (by omega)]
    congr 4
    rw [List.getD_eq_getElem?_getD,List.getElem?_append_left (by omega),List.getD_eq_getElem?_getD]
def jv (p : Int) (f g : List Int) (v : Int) : Nat → List Int
  | 0=>[]
  | k + 1=>jv p f g v k ++ [(nM p g (jv p f g v k) k (min k (g.length - 1)) 1 (f.getD k 0) * v) % p]
theorem jY (p : Int) (f g : List Int) (v : Int) (k : Nat) : (jv p f g v k).length = k:=by
  induction k with
  | zero=>rfl
  | succ k ih=>rw [jv,List.length_append,ih];rfl
theorem rW {p : Int} (hp : 0 < p) (f g : List Int) (v : Int) (k : Nat) : Nm p (jv p f g v k):=by
  induction k with
  | zero=>exact Nm.nil p
  | succ k ih=>exact ih.append (Nm.cons (jQ hp _).1 (jQ hp _).2 (Nm.nil p))
theorem Dq {p : Int} (hp : Pm p) (f g : List Int) (ng : Nm p g) (v : Int) (hv : 0 ≤ v∧v < p) (n : Int) (o : List Int) (no : Nm p o) (k : Nat) (hk : k < 1000) (hg : g.length ≤ 1000) (hg1 : 1 ≤ g.length) (ho : o.length = k) (r : List Int) (d : Nat) : ∀ (i : Nat) (s : Int),i + d = 1 + min k (g.length - 1) → 1 ≤ i → 0 ≤ s∧s < p →
    Ev (fun q=>bv.l0 q p f g n (o ++ [(nM p g o k d i s * v) % p]) v ((k + 1 : Nat) : Int)) r →
    Ev (fun q=>bv.l1 q p f g n o v (k : Int) s (i : Int)) r:=by
  induction d with
  | zero =>
    intro i s hi h1 hs e
    have hm:=rU hp hs.1 hs.2 hv.1 hv.2
    refine Ev.step (fun q=>by rw [bv.l1]) ?_
    rw [bT (x:=s * v) (by omega) (by omega),jk hm.1,jN (i:=k) (n:=1000) (by omega) (by omega)]
    rw [nM] at e
    by_cases c : i ≤ k
    · exact Ev.pos (by omega) (Ev.neg (by omega) (Ev.neg hp.ne (Ev.pos (by omega) e)))
    · exact Ev.neg (by omega) (Ev.neg hp.ne (Ev.pos (by omega) e))
  | succ d ih =>
    intro i s hi h1 hs e
    have a1:=ng.get (i:=i) (by omega)
    have a2:=no.get (i:=k - i) (by omega)
    have hm:=rU hp a1.1 a1.2 a2.1 a2.2
    have ht:=hp.top
    have ew : wrap64 ((k : Int) - (i : Int)) = ((k - i : Nat) : Int):=by clear hm a1 a2;rw [bT (by omega) (by omega)];omega
    refine Ev.step (fun q=>by rw [bv.l1]) ?_
    rw [ew,fI,fI,bT (x:=g.getD i 0 * o.getD (k - i) 0) (by omega) (by omega),bT (by omega) (by omega)]
    clear hm a1 a2
    refine Ev.pos (by omega) (Ev.pos (by omega) (Ev.pos (by omega) (Ev.pos (by omega) (Ev.pos (by omega) (Ev.gY (xA hp _) ?_)))))
    rw [jN (i:=i) (n:=1002) (by omega) (by omega)]
    exact ih (i + 1) _ (by omega) (by omega) (jQ hp.pos _) e
theorem Dr {p : Int} (hp : Pm p) (f g : List Int) (nf : Nm p f) (ng : Nm p g) (v : Int) (hv : 0 ≤ v∧v < p) (n : Nat) (hn : n < 1000) (hg : g.length ≤ 1000) (hg1 : 1 ≤ g.length) (d : Nat) : ∀ k,k + d = n →
    Ev (fun q=>bv.l0 q p f g (n : Int) (jv p f g v k) v (k : Int)) (jv p f g v n):=by
  induction d with
  | zero =>
    intro k hk
    refine Ev.step (fun q=>by rw [bv.l0]) ?_
    refine Ev.neg (by omega) (Ev.kJ ?_)
    rw [show k = n from by omega]
  | succ d ih =>
    intro k hk
    have ihk:=ih (k + 1) (by omega)
    have step : Ev (fun q=>bv.j1 q p f g (n : Int) (jv p f g v k) v (k : Int) (f.getD k 0)) (jv p f g v n):=by
      refine Ev.step (fun q=>by rw [bv.j1]) ?_
      exact Dq hp f g ng v hv _ _ (rW hp.pos f g v k) k (by omega) hg hg1 (jY p f g v k) _ (min k (g.length - 1)) 1 _ (by omega) (by omega) (nf.mq hp.pos k) ihk
    refine Ev.step (fun q=>by rw [bv.l0]) ?_
    refine Ev.pos (by omega) ?_
    by_cases c : k < f.length
    · rw [fI]
      exact Ev.pos (by omega) (Ev.pos (by omega) step)
    · have e0 : f.getD k 0 = 0:=by rw [List.getD_eq_getElem?_getD,List.getElem?_eq_none (by omega)];rfl
      rw [e0] at step
      exact Ev.neg (by omega) step
theorem qV {p : Int} (hp : Pm p) (f g : List Int) (nf : Nm p f) (ng : Nm p g) (n : Nat) (hn : n < 1000) (hg : g.length ≤ 1000) (hg1 : 1 ≤ g.length) :
    Ev (fun q=>bv.f q p f g (n : Int)) (jv p f g (iR p (g.getD 0 0)) n):=by
  unfold bv.f
  have a:=ng.get (i:=0) (by omega)
  have er : rd g 0 = g.getD 0 0:=fI g 0
  rw [er]
  exact Ev.pos (by omega) (Ev.bind (qZ hp a) (Dr hp f g nf ng _ (pq hp _) n hn hg hg1 n 0 (by omega)))
theorem Dt {p : Int} (hp : Pm p) (f g : List Int) (ng : Nm p g) (v : Int) (hv : 0 ≤ v∧v < p) (n : Int) (o : List Int) (no : Nm p o) (k : Nat) (hk : k < o.length) (hk2 : k < 1000) (hg : g.length ≤ 1000) (hg1 : 1 ≤ g.length) (r : List Int) (d : Nat) : ∀ (i : Nat) (s : Int),i + d = 1 + min k (g.length - 1) → 1 ≤ i → 0 ≤ s∧s < p →
    Ev (fun q=>aY.l0 q p f g (o.set k ((nM p g o k d i s * v) % p)) v n ((k + 1 : Nat) : Int)) r →
    Ev (fun q=>aY.l1 q p f g o v (k : Int) s (i : Int) n (k : Int)) r:=by
  induction d with
  | zero =>
    intro i s hi h1 hs e
    refine Ev.step (fun q=>by rw [aY.l1]) ?_
    rw [jN (i:=k) (n:=1000) (by omega) (by omega),fT]
    rw [nM] at e
    by_cases c : i ≤ k
    · exact Ev.pos (by omega) (Ev.neg (by omega) (Ev.gY (qG hp hs hv) (Ev.pos (by omega) (Ev.pos (by omega) e))))
    · exact Ev.neg (by omega) (Ev.gY (qG hp hs hv) (Ev.pos (by omega) (Ev.pos (by omega) e)))
  | succ d ih =>
    intro i s hi h1 hs e
    have a1:=ng.get (i:=i) (by omega)
    have a2:=no.get (i:=k - i) (by omega)
    have hm:=rU hp a1.1 a1.2 a2.1 a2.2
    have ht:=hp.top
    have ew : wrap64 ((k : Int) - (i : Int)) = ((k - i : Nat) : Int):=by clear hm a1 a2;rw [bT (by omega) (by omega)];omega
    refine Ev.step (fun q=>by rw [aY.l1]) ?_
    rw [ew,fI,fI,bT (x:=g.getD i 0 * o.getD (k - i) 0) (by omega) (by omega),bT (by omega) (by omega)]
    clear hm a1 a2
    refine Ev.pos (by omega) (Ev.pos (by omega) (Ev.pos (by omega) (Ev.pos (by omega) (Ev.pos (by omega) (Ev.gY (p8 hp _) ?_)))))
    rw [jN (i:=i) (n:=1002) (by omega) (by omega)]
    exact ih (i + 1) _ (by omega) (by omega) (jQ hp.pos _) e
theorem Du {p : Int} (hp : Pm p) (f g : List Int) (nf : Nm p f) (ng : Nm p g) (v : Int) (hv : 0 ≤ v∧v < p) (n : Nat) (hn : n < 1000) (hg : g.length ≤ 1000) (hg1 : 1 ≤ g.length) (d : Nat) : ∀ k,k + d = n →
    Ev (fun q=>aY.l0 q p f g (jv p f g v k ++ List.replicate (n - k) 0) v (n : Int) (k : Int)) (jv p f g v n):=by
  induction d with
  | zero =>
    intro k hk
    refine Ev.step (fun q=>by rw [aY.l0]) ?_
    refine Ev.neg (by omega) (Ev.kJ ?_)
    rw [show k = n from by omega,Nat.sub_self,List.replicate_zero,List.append_nil]
  | succ d ih =>
    intro k hk
    have ihk:=ih (k + 1) (by omega)
    have hlen : (jv p f g v k ++ List.replicate (n - k) (0 : Int)).length = n:=by rw [List.length_append,jY,List.length_replicate];omega
    have hset : (jv p f g v k ++ List.replicate (n - k) (0 : Int)).set k ((nM p g (jv p f g v k ++ List.replicate (n - k) 0) k (min k (g.length - 1)) 1 (f.getD k 0) * v) % p) = jv p f g v (k + 1) ++ List.replicate (n - (k + 1)) 0:=by
      rw [BN p g _ _ k _ (jY p f g v k) 1 _ (by omega) (by omega),List.set_append_right (h:=by rw [jY];omega),jY,Nat.sub_self,show n - k = (n - (k + 1)) + 1 from by omega,List.replicate_succ,List.set_cons_zero,jv,List.append_assoc]
      rfl
    have step : Ev (fun q=>aY.j1 q p f g (jv p f g v k ++ List.replicate (n - k) 0) v (k : Int) (f.getD k 0) (n : Int) (k : Int)) (jv p f g v n):=by
      refine Ev.step (fun q=>by rw [aY.j1]) ?_
      refine Dt hp f g ng v hv _ _ ((rW hp.pos f g v k).append (Nm.zeros hp.pos _)) k (by rw [hlen];omega) (by omega) hg hg1 _ (min k (g.length - 1)) 1 _ (by omega) (by omega) (nf.mq hp.pos k) ?_
      rw [hset]
      exact ihk
    refine Ev.step (fun q=>by rw [aY.l0]) ?_
    refine Ev.pos (by omega) ?_
    by_cases c : k < f.length
    · rw [fI]
      exact Ev.pos (by omega) (Ev.pos (by omega) step)
    · have e0 : f.getD k 0 = 0:=by rw [List.getD_eq_getElem?_getD,List.getElem?_eq_none (by omega)];rfl
      rw [e0] at step
      exact Ev.neg (by omega) step
theorem uY {p : Int} (hp : Pm p) (f g : List Int) (nf : Nm p f) (ng : Nm p g) (n : Nat) (hn : n < 1000) (hg : g.length ≤ 1000) (hg1 : 1 ≤ g.length) :
    Ev (fun q=>aY.f q p f g (n : Int)) (jv p f g (iR p (g.getD 0 0)) n):=by
  unfold aY.f
  have a:=ng.get (i:=0) (by omega)
  have er : rd g 0 = g.getD 0 0:=fI g 0
  have h:=Du hp f g nf ng _ (pq hp (g.getD 0 0)) n hn hg hg1 n 0 (by omega)
  rw [fT]
  refine Ev.pos (by omega) (Ev.pos (by omega) (Ev.gY (a:=List.replicate n 0) rfl ?_))
  rw [er,List.length_replicate]
  refine Ev.pos (by omega) (Ev.bind (qY hp a) ?_)
  rw [jv,List.nil_append,Nat.sub_zero] at h
  exact h
/- A source of drawn numbers, what is kept beside it: carried over by instances. -/
class NeB (g k : Nat) : Prop where
  ne : g ≠ k
/-- The block g stays as it is. -/
class UpB (g : Nat) (w0 w : World) : Prop where
  up : ∀ {o : Obj},w0.heap[g]? = some o → w.heap[g]? = some o
instance UpB.refl (g : Nat) (w : World) : UpB g w w:=⟨fun h=>h⟩
instance UpB.alloc (g : Nat) (w0 w : World) (o : Obj) [u : UpB g w0 w] : UpB g w0 (w.alloc o):=⟨fun h=>iF (u.up h) (dF (Below.refl _ _) o)⟩
instance UpB.drew (g : Nat) (w0 w : World) [u : UpB g w0 w] : UpB g w0 w.drew:=⟨fun h=>iF (u.up h) (bG (Below.refl _ _))⟩
instance UpB.drewN (g : Nat) (w0 w : World) (n : Nat) [u : UpB g w0 w] : UpB g w0 (w.drewN n):=⟨fun h=>iF (u.up h) (bQ (Below.refl _ _) n)⟩
instance UpB.setCell (g : Nat) (w0 w : World) (k j : Nat) (v : Value) [u : UpB g w0 w] [q : NeB g k] : UpB g w0 (w.setCell ⟨k,j,none⟩ v):=⟨fun h=>(Below.heap_setCell w ⟨k,j,none⟩ v g q.ne).trans (u.up h)⟩
theorem uI {w0 W w : World} {g : Nat} {f0 : List Int} {f1 f2 : Int} (h : aA w0 W g f0 f1 f2) [u : UpB g W w] : aA w0 w g f0 f1 f2:=by
  obtain ⟨A,c,h1,h2⟩:=h
  exact ⟨A,c,u.up h1,h2⟩
/-- All but g, and but what lies behind the border, stays. -/
class UpK (b g : Nat) (w0 w : World) : Prop where
  up : ∀ {w1 : World},b = w1.heap.size → aM w1 w0 g none → aM w1 w g none
instance UpK.refl (b g : Nat) (w : World) : UpK b g w w:=⟨fun _ h=>h⟩
instance UpK.alloc (b g : Nat) (w0 w : World) (o : Obj) [u : UpK b g w0 w] : UpK b g w0 (w.alloc o):=⟨fun e h=>dP (u.up e h) o⟩
instance UpK.drew (b g : Nat) (w0 w : World) [u : UpK b g w0 w] : UpK b g w0 w.drew:=⟨fun e h=>eB (u.up e h)⟩
instance UpK.drewN (b g : Nat) (w0 w : World) (n : Nat) [u : UpK b g w0 w] : UpK b g w0 (w.drewN n):=⟨fun e h=>dQ (u.up e h) n⟩
instance UpK.far (b g : Nat) (w0 w : World) (k j : Nat) (v : Value) [u : UpK b g w0 w] [q : Geq b k] : UpK b g w0 (w.setCell ⟨k,j,none⟩ v):=⟨by rintro w1 rfl h;exact Dv (u.up rfl h) q.geq v⟩
instance UpK.own (b g : Nat) (w0 w : World) (j : Nat) (v : Value) [u : UpK b g w0 w] : UpK b g w0 (w.setCell ⟨g,j,none⟩ v):=⟨fun e h=>aM.kT (u.up e h) j v⟩
theorem uK {w W w' : World} {g : Nat} (h : aM w W g none) [u : UpK w.heap.size g W w'] : aM w w' g none:=u.up rfl h
attribute [local go_sem] kK kL lQ lS jV jW kM kN   -- for this text's walks alone
set_option linter.unusedVariables false
set_option maxHeartbeats 8000000
set_option maxRecDepth 100000
set_option linter.unusedSimpArgs false
/-! ### bU: function 70 -/
def bU.f (ba : List Int) (ca : Int) (da : Int) (l1 : List Int) : Option (Int × Int × Int):=(bu.f ba ca da (l1.length : Int)).bind fun aa=>(if 0 ≤ aa.1 then (if aa.1 < (l1.length : Int) then (some (rd l1 aa.1,aa.2.1,aa.2.2)) else (none)) else (none))
theorem bU.calls (g : Nat) (ba : List Int) (da : Int) (ea : Int) (A1 : Option Addr) (c1 : Nat) (l1 : List Int) (r1 : Int) (r2 : Int) (r3 : Int) (w0 w : World) (hI : aA w0 w g ba da ea) (hB : Below w0.heap.size w0 w) (qa : Kd.C (Kd.int .i64) w A1 l1.length l1) (ra : l1.length ≤ c1) (ma : ∀ ad,A1 = some ad → 0 < l1.length → ad.block ≠ g) (H : bU.f ba da ea l1 = some (r1,r2,r3)) :
  Calls Try.prog 70 #[.pointer (some ⟨g,0,none⟩),.slice A1 l1.length c1] w fun e w'=>e = .returned (.int .i64 r1)∧aA w0 w' g ba r2 r3∧Below w0.heap.size w0 w'∧aM w w' g none:=by
 have sa:=zA qa;have wa:=zA ra;clear qa ra;have ka:=zA hI;have:=geI (zA (aA.ge ka.out));have HK:=zA (aM.refl w g none);have HL:=zA hB.size;clear hI;have HW0:=zA hB.size;have HB:=zA hB;clear hB;unfold bU.f at H;replace H:=bO H;obtain ⟨⟨ca,na,oa⟩,A3,H⟩:=H;(try dsimp only at H);replace H:=gD H;obtain ⟨ta,H⟩:=H;replace H:=gD H;obtain ⟨ua,H⟩:=H;simp only [Option.some.injEq,Prod.mk.injEq] at H;obtain ⟨rfl,rfl,rfl⟩:=H;go_enter Try.func70,Try.ntmps70;go_wp2_with (first | ((with_reducible refine av (f:=68) rfl ?_);refine gL (some 9) Try.func68 #[.pointer (some ⟨g,0,none⟩),.int .i64 (l1.length : Int)] ?_;(with_reducible refine (bu.calls g ba da ea (l1.length : Int) ca na oa w0 _ ?ha ?ia A3.out).mono ?_);(case ha=>exact uI ka.out);(case ia=>exact uH HB.out);rintro e w6 ⟨rfl,hi,hb,hk⟩;refine ⟨_,rfl,?_⟩;replace HK:=zA (aM.trans (uK HK.out) hk (.inl rfl));replace HB:=zA (hb);replace ka:=zA (hi);have fa : 0 ≤ (ca : Int):=of_decide_eq_true (by first | (with_reducible assumption) | assumption);have ga : ca < (l1.length : Int):=of_decide_eq_true (by first | (with_reducible assumption) | assumption);obtain ⟨ja,pa,aa⟩:=Kd.dn sa.out ca fa ga;cases pa;replace aa:=BO HK.out aa (by first | (rw [add_block];exact ma _ rfl (by omega)) | exact ma _ rfl (by omega) | exact ma ja rfl (by omega));replace fa:=eq_true fa;replace ga:=eq_true ga));go_ret;exact ⟨eX,uI ka.out,uH HB.out,uK HK.out⟩
/- What comes to some value of a kind, whichever (Ex); the source of drawn numbers. No condition. -/
/-- It comes to a value with P. -/
def Ex {α : Type} (g : Nat → Option α) (P : α → Prop) : Prop:=∃ r,Ev g r∧P r
section
variable {α β : Type} {P P' : α → Prop} {Q : β → Prop} {g f X Y : Nat → Option α}
theorem Ex.now {r : α} (h : P r) : Ex (fun _=>some r) P:=⟨r,Ev.now r,h⟩
theorem Ex.weak (h : Ex g P) (k : ∀ a,P a → P' a) : Ex g P':=by
  obtain ⟨r,e,h⟩:=h
  exact ⟨r,e,k r h⟩
theorem Ex.bind {f : Nat → α → Option β} (h : Ex g P) (k : ∀ a,P a → Ex (fun n=>f n a) Q) : Ex (fun n=>(g n).bind (f n)) Q:=by
  obtain ⟨r,e,h⟩:=h
  obtain ⟨s,e',h'⟩:=k r h
  exact ⟨s,Ev.bind e e',h'⟩
theorem Ex.ite {c : Prop} [Decidable c] (h : c → Ex X P) (h' : ¬ c → Ex Y P) : Ex (fun k=>if c then X k else Y k) P:=by
  by_cases g : c
  · obtain ⟨r,e,hr⟩:=h g
    exact ⟨r,Ev.pos g e,hr⟩
  · obtain ⟨r,e,hr⟩:=h' g
    exact ⟨r,Ev.neg g e,hr⟩
theorem Ex.pos {c : Prop} [Decidable c] (g : c) (h : Ex X P) : Ex (fun k=>if c then X k else Y k) P:=Ex.ite (fun _=>h) (fun n=>absurd g n)
theorem Ex.neg {c : Prop} [Decidable c] (g : ¬ c) (h : Ex Y P) : Ex (fun k=>if c then X k else Y k) P:=Ex.ite (fun n=>absurd n g) (fun _=>h)
theorem Ex.step (h : ∀ k,g (k + 1) = f k) (k : Ex f P) : Ex g P:=by
  obtain ⟨r,e,hr⟩:=k
  exact ⟨r,Ev.step h e,hr⟩
theorem Ex.eq {x : Option α} {r : α} (h : x = some r) (k : P r) : Ex (fun _=>x) P:=⟨r,Ev.eq h,k⟩
end

/-- A source of numbers: bytes, of which the first i are used. -/
structure St (c : List Int) (i : Int) : Prop where
  b : ∀ x ∈ c,0 ≤ x∧x < 256
  l : c.length ≤ 4096
  lo : 0 ≤ i
  hi : i ≤ (c.length : Int)
theorem ET (y : Int) : 0 ≤ Go.bits .and .u64 (IntKind.u64.wrap y / 8589934592) 16777215∧Go.bits .and .u64 (IntKind.u64.wrap y / 8589934592) 16777215 < 16777216:=by
  have hw : ∀ n : Int,0 ≤ n → n < 2 ^ 63 → IntKind.u64.wrap n = n:=fun n h₀ h₁=>by rw [IntKind.wrap_u64];omega
  have h0 : 0 ≤ IntKind.u64.wrap y / 8589934592∧IntKind.u64.wrap y / 8589934592 < 2147483648:=by rw [IntKind.wrap_u64];omega
  have h:=bits_mask .u64 63 (by decide) hw 24 (by decide) (IntKind.u64.wrap y / 8589934592) (by omega) (by omega)
  have e : ((2 : Int) ^ 24 - 1) = 16777215:=by decide
  have e2 : ((2 : Int) ^ 24) = 16777216:=by decide
  rw [e,e2] at h
  rw [h]
  omega
/-- What Next gives. -/
def Nx (c : List Int) (n : Int) (r : Int × Int × Int) : Prop:=St c r.2.1∧0 ≤ r.1∧(1 ≤ n → r.1 < n)∧(n < 1 → r.1 = 0)
theorem jJ {c : List Int} {i : Int} (s : St c i) (h n : Int) : Ex (fun _=>bu.f c i h n) (Nx c n):=by
  unfold bu.f
  have hl:=s.l
  have hlo:=s.lo
  have hhi:=s.hi
  have hm:=ET (IntKind.u64.wrap (h * 6364136223846793005) + 1442695040888963407)
  generalize Go.bits .and .u64 (IntKind.u64.wrap (IntKind.u64.wrap (h * 6364136223846793005) + 1442695040888963407) / 8589934592) 16777215 = m at hm ⊢
  refine Ex.ite (fun g=>Ex.now ⟨s,Int.le_refl _,fun g'=>by omega,fun _=>rfl⟩) (fun g=>?_)
  refine Ex.ite (fun g1=>?_) (fun g1=>?_)
  · have hx : 0 ≤ rd c i∧rd c i < 256:=by
      obtain ⟨j,rfl⟩ : ∃ j : Nat,i = (j : Int):=⟨i.toNat,by omega⟩
      rw [fI]
      exact s.b _ (vJ (by omega))
    have e : wrap64 (wrap64 m + wrap64 (rd c i)) = m + rd c i:=by
      rw [bT (x:=rd c i) (by omega) (by omega),bT (x:=m) (by omega) (by omega),bT (by omega) (by omega)]
    have hb:=jQ (p:=n) (by omega) (m + rd c i)
    refine Ex.pos s.lo (Ex.neg (by omega) (Ex.now ⟨⟨s.b,s.l,?_,?_⟩,?_,?_,?_⟩))
    · show 0 ≤ wrap64 (i + 1)
      rw [bT (by omega) (by omega)];omega
    · show wrap64 (i + 1) ≤ _
      rw [bT (by omega) (by omega)];omega
    · show 0 ≤ Int.tmod (wrap64 (wrap64 m + wrap64 (rd c i))) n
      rw [e,jk (by omega)];exact hb.1
    · show 1 ≤ n → Int.tmod (wrap64 (wrap64 m + wrap64 (rd c i))) n < n
      rw [e,jk (by omega)];exact fun _=>hb.2
    · exact fun g'=>by omega
  · have e : wrap64 m = m:=bT (by omega) (by omega)
    have hb:=jQ (p:=n) (by omega) m
    refine Ex.neg (by omega) (Ex.now ⟨s,?_,?_,?_⟩)
    · show 0 ≤ Int.tmod (wrap64 m) n
      rw [e,jk (by omega)];exact hb.1
    · show 1 ≤ n → Int.tmod (wrap64 m) n < n
      rw [e,jk (by omega)];exact fun _=>hb.2
    · exact fun g'=>by omega
theorem mD {c : List Int} {i : Int} (s : St c i) (h : Int) (l : List Int) (hl : 1 ≤ l.length) : Ex (fun _=>bU.f c i h l) (fun r=>St c r.2.1∧r.1 ∈ l):=by
  unfold bU.f
  refine Ex.bind (jJ s h (l.length : Int)) (fun r hr=>?_)
  obtain ⟨h1,h2,h3,_⟩:=hr
  have h3:=h3 (by omega)
  refine Ex.pos h2 (Ex.pos h3 (Ex.now ⟨h1,?_⟩))
  obtain ⟨j,e⟩ : ∃ j : Nat,r.1 = (j : Int):=⟨r.1.toNat,by omega⟩
  dsimp only
  rw [e,fI]
  exact vJ (by omega)
/-- A code's source. -/
def Sc (c : List Int) (r : List Int × Int × Int) : Prop:=r.1 = c∧St c r.2.1
theorem EU {c : List Int} (hb : ∀ x ∈ c,0 ≤ x∧x < 256) (hl : c.length ≤ 4096) (d : Nat) : ∀ (i : Nat) (h : Int),i + d = c.length → Ex (fun k=>bV.l0 k c (i : Int) c 0 h) (Sc c):=by
  have s : St c 0:=⟨hb,hl,Int.le_refl _,by omega⟩
  induction d with
  | zero =>
    intro i h hi
    refine Ex.step (fun k=>by rw [bV.l0]) ?_
    exact Ex.neg (by omega) (Ex.now ⟨rfl,s⟩)
  | succ d ih =>
    intro i h hi
    refine Ex.step (fun k=>by rw [bV.l0]) ?_
    refine Ex.pos (by omega) (Ex.ite (fun _=>Ex.pos (by omega) ?_) (fun _=>Ex.now ⟨rfl,s⟩))
    rw [jN (i:=i) (n:=c.length) (by omega) (by omega)]
    exact ih (i + 1) _ (by omega)
theorem qH {c : List Int} (hb : ∀ x ∈ c,0 ≤ x∧x < 256) (hl : c.length ≤ 4096) : Ex (fun k=>bV.f k c) (Sc c):=by
  unfold bV.f
  exact EU hb hl c.length 0 _ (by omega)
end Go.Proofs.Ytknppcledhnkoaa.Pr
