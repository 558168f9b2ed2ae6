/- Texts of this session in one: what functions of the program compute, and plain facts of it, under the conditions that each theorem names. -/
import Derived.Test.YtknppcledhnkoaaKData1
import Derived.Test.YtknppcledhnkoaaKData2
import Derived.Test.YtknppcledhnkoaaKData3
import Derived.Test.YtknppcledhnkoaaKData4
import Derived.Test.YtknppcledhnkoaaKData5
import Derived.Test.YtknppcledhnkoaaKData6
import Derived.Test.YtknppcledhnkoaaKData7
namespace Go.Proofs.Ytknppcledhnkoaa.Pr
/- Plain lemmas: rounds (Ev), wrapped sums, rests modulo p, lists read and written at an index. No program is in sight. -/
open Go.RowKit Go.Proofs.YtknppcledhnkoaaW.PrintWords Go.Proofs.YtknppcledhnkoaaW.PrintLast Go.Proofs.YtknppcledhnkoaaW.PrintMore
section
variable {α β : Type}
theorem Ev.pos {c : Prop} [Decidable c] {X Y : Nat → Option α} {r : α} (h : c) (e : Ev X r) : Ev (fun k=>if c then X k else Y k) r:=by
  simpa only [if_pos h] using e
theorem Ev.neg {c : Prop} [Decidable c] {X Y : Nat → Option α} {r : α} (h : ¬ c) (e : Ev Y r) : Ev (fun k=>if c then X k else Y k) r:=by
  simpa only [if_neg h] using e
theorem Ev.eq {x : Option α} {r : α} (h : x = some r) : Ev (fun _=>x) r:=⟨0,fun _ _=>h⟩
theorem Ev.jO {r s : α} (h : r = s) : Ev (fun _=>some r) s:=⟨0,fun _ _=>by rw [h]⟩
theorem Ev.dx {x : Option α} {f : Nat → α → Option β} {a : α} {r : β} (h : x = some a) (e : Ev (fun n=>f n a) r) : Ev (fun n=>x.bind (f n)) r:=by
  subst h;simpa using e
theorem Ev.cast {g : Nat → Option α} {r s : α} (h : Ev g r) (e : r = s) : Ev g s:=e ▸ h
end

theorem bQ {x : Int} (h0 : -9223372036854775808 ≤ x) (h1 : x < 9223372036854775808) : wrap64 x = x:=by unfold wrap64;omega
theorem lT {i n : Nat} (h : i < n) (hn : n < 4611686018427387904) : wrap64 ((i : Int) + 1) = ((i + 1 : Nat) : Int):=by unfold wrap64;omega
theorem Jr {i j n : Nat} (h : i + j < n) (hn : n < 4611686018427387904) : wrap64 ((i : Int) + (j : Int)) = ((i + j : Nat) : Int):=by unfold wrap64;omega
theorem nT {i : Nat} (h : 0 < i) (hn : i < 4611686018427387904) : wrap64 ((i : Int) - 1) = ((i - 1 : Nat) : Int):=by unfold wrap64;omega

theorem fw (l : List Int) (i : Nat) : rd l (i : Int) = l.getD i 0:=by simp [rd]
theorem yJ (l : List (List Int)) (i : Nat) : jS l (i : Int) = l.getD i []:=by simp [jS]
theorem pq {α : Type} {l : List α} {i : Nat} {d : α} (h : i < l.length) : l.getD i d ∈ l:=by
  simp only [List.getD_eq_getElem?_getD,List.getElem?_eq_getElem h,Option.getD_some];exact List.getElem_mem h
theorem eT (i : Nat) : ((i : Int)).toNat = i:=rfl

/-- A length that is small. -/
abbrev Sm (n : Nat) : Prop:=n ≤ 1048576

/-- Numbers modulo p. -/
def Nm (p : Int) (l : List Int) : Prop:=∀ x ∈ l,0 ≤ x∧x < p
theorem Nm.nil (p : Int) : Nm p []:=fun x h=>by cases h
theorem Nm.cons {p x : Int} {l : List Int} (h0 : 0 ≤ x) (h1 : x < p) (h : Nm p l) : Nm p (x :: l):=fun y hy=>by
  rcases List.mem_cons.1 hy with rfl | hy
  · exact ⟨h0,h1⟩
  · exact h y hy
theorem Nm.append {p : Int} {l m : List Int} (h : Nm p l) (h' : Nm p m) : Nm p (l ++ m):=fun y hy=>by
  rcases List.mem_append.1 hy with hy | hy
  · exact h y hy
  · exact h' y hy
theorem Nm.get {p : Int} {l : List Int} (h : Nm p l) {i : Nat} (hi : i < l.length) : 0 ≤ l.getD i 0∧l.getD i 0 < p:=h _ (pq hi)
theorem Nm.oJ {p : Int} {l : List Int} (h : Nm p l) (hp : 0 < p) (i : Nat) : 0 ≤ l.getD i 0∧l.getD i 0 < p:=by
  by_cases hi : i < l.length
  · exact h.get hi
  · rw [List.getD_eq_getElem?_getD,List.getElem?_eq_none (by omega)];exact ⟨Int.le_refl _,hp⟩
theorem Nm.take {p : Int} {l : List Int} (h : Nm p l) (n : Nat) : Nm p (l.take n):=fun x hx=>h x (List.mem_of_mem_take hx)
theorem Nm.drop {p : Int} {l : List Int} (h : Nm p l) (n : Nat) : Nm p (l.drop n):=fun x hx=>h x (List.mem_of_mem_drop hx)
theorem Nm.set {p x : Int} {l : List Int} (h : Nm p l) (h0 : 0 ≤ x) (h1 : x < p) (i : Nat) : Nm p (l.set i x):=fun y hy=>by
  rcases List.mem_or_eq_of_mem_set hy with hy | rfl
  · exact h y hy
  · exact ⟨h0,h1⟩
theorem Nm.zeros {p : Int} (hp : 0 < p) (n : Nat) : Nm p (List.replicate n 0):=fun x hx=>by
  rw [(List.mem_replicate.1 hx).2];exact ⟨Int.le_refl _,hp⟩
instance (p : Int) (l : List Int) : Decidable (Nm p l):=by unfold Nm;infer_instance

/-- A modulus that the program may have (in its range; a o7 or not). -/
structure Pm (p : Int) : Prop where
  two : 2 ≤ p
  top : p ≤ 10007
theorem Pm.pos {p : Int} (h : Pm p) : 0 < p:=by have:=h.two;omega
theorem Pm.ne {p : Int} (h : Pm p) : p ≠ 0:=by have:=h.two;omega

theorem GV {a b m n : Int} (ha : 0 ≤ a) (ha' : a ≤ m) (hb : 0 ≤ b) (hb' : b ≤ n) : 0 ≤ a * b∧a * b ≤ m * n :=
  ⟨Int.mul_nonneg ha hb,Int.mul_le_mul ha' hb' hb (by omega)⟩
/-- A product of two numbers modulo p. -/
theorem rz {p a b : Int} (hp : Pm p) (ha : 0 ≤ a) (ha' : a < p) (hb : 0 ≤ b) (hb' : b < p) : 0 ≤ a * b∧a * b ≤ 100140049:=by
  have h1:=hp.top
  have h:=GV (m:=10007) (n:=10007) ha (by omega) hb (by omega)
  exact ⟨h.1,by omega⟩
theorem iG {a b : Int} (h : 0 ≤ a) : Int.tmod a b = a % b:=Int.tmod_eq_emod_of_nonneg h
theorem iD {p : Int} (hp : 0 < p) (x : Int) : 0 ≤ x % p∧x % p < p:=⟨Int.emod_nonneg _ (by omega),Int.emod_lt_of_pos _ hp⟩
/-- Go's '(x % p + p) % p' is the rest of x. -/
theorem yK {p x : Int} (hp : Pm p) : Int.tmod (wrap64 (Int.tmod x p + p)) p = x % p:=by
  have h2:=hp.two
  have ht:=hp.top
  have h:=Int.tmod_eq_emod (a:=x) (b:=p)
  have hb:=iD hp.pos x
  have hn : ((p.natAbs : Nat) : Int) = p:=by omega
  split at h
  · rw [h,Int.natCast_zero,bQ (by omega) (by omega),iG (by omega),show x % p - 0 + p = x % p + p from by omega,Int.add_emod_right,Int.emod_emod]
  · rw [h,hn,bQ (by omega) (by omega),iG (by omega),show x % p - p + p = x % p from by omega,Int.emod_emod]

/-- A list without noughts at its end. -/
def jr (l : List Int) : List Int:=(l.reverse.dropWhile (· == 0)).reverse
theorem zM : jr [] = []:=rfl
theorem mP (l : List Int) : jr (l ++ [0]) = jr l:=by simp [jr]
theorem oq (l : List Int) {x : Int} (h : x ≠ 0) : jr (l ++ [x]) = l ++ [x]:=by simp [jr,h]
theorem yL {α : Type} {P : List α → Prop} (h0 : P []) (h1 : ∀ l x,P l → P (l ++ [x])) (l : List α) : P l:=by
  have h : ∀ l : List α,P l.reverse:=by
    intro l
    induction l with
    | nil=>exact h0
    | cons x l ih=>rw [List.reverse_cons];exact h1 _ _ ih
  simpa using h l.reverse
theorem vY (l : List Int) : ∃ n,l = jr l ++ List.replicate n 0:=by
  induction l using yL with
  | h0=>exact ⟨0,rfl⟩
  | h1 l x ih =>
    by_cases h : x = 0
    · subst h
      obtain ⟨n,hn⟩:=ih
      refine ⟨n + 1,?_⟩
      rw [mP,List.replicate_succ',← List.append_assoc,← hn]
    · exact ⟨0,by rw [oq l h];simp⟩
/- The great laws' comparisons of lists and moments. -/
open Go Go.RowKit Go.Proofs.YtknppcledhnkoaaW.PrintWords Go.Proofs.YtknppcledhnkoaaW.PrintLast Go.Proofs.YtknppcledhnkoaaW.PrintMore
theorem GX (l : List Int) (hl : Sm l.length) (d : Nat) : ∀ i : Nat,i + d = l.length → Ev (fun k=>dJ.l0 k l l (i : Int)) true:=by
  unfold Sm at hl
  induction d with
  | zero =>
    intro i hi
    refine Ev.step (fun k=>by rw [dJ.l0]) ?_
    exact Ev.neg (by omega) (Ev.now _)
  | succ d ih =>
    intro i hi
    refine Ev.step (fun k=>by rw [dJ.l0]) ?_
    refine Ev.pos (by omega) (Ev.pos (by omega) (Ev.pos (by omega) (Ev.pos rfl ?_)))
    rw [lT (i:=i) (n:=l.length) (by omega) (by omega)]
    exact ih (i + 1) (by omega)
theorem sI (l : List Int) (hl : Sm l.length) : Ev (fun k=>dJ.f k l l) true:=by
  unfold dJ.f
  exact Ev.pos rfl (GX l hl l.length 0 (by omega))
/- Copies of lists; no condition. -/
theorem Sm0 : Sm ([] : List Int).length:=by simp [Sm]
theorem Sm.take {l : List Int} (h : Sm l.length) (n : Nat) : Sm (l.take n).length:=by unfold Sm at h ⊢;rw [List.length_take];omega
theorem Sm.drop {l : List Int} (h : Sm l.length) (n : Nat) : Sm (l.drop n).length:=by unfold Sm at h ⊢;rw [List.length_drop];omega
theorem mZ (l : List Int) (hl : Sm l.length) : dA.f l = some l:=by
  unfold dA.f
  simp only [Option.bind_some,List.length_nil,List.nil_append]
  rw [if_pos (by unfold Sm at hl;omega)]
theorem pu (l : List Int) (hl : Sm l.length) : dY.f l = some l:=by
  unfold dY.f
  rw [if_pos (by unfold Sm at hl;omega)]
/- Primes and numbers modulo p: what the program and the reference compute of them. -/
theorem rJ (a b c : Int) : d9.f a b c = some (decide (b ≤ a∧a ≤ c)):=by
  unfold d9.f
  by_cases h : b ≤ a
  · rw [if_pos h];simp [h]
  · rw [if_neg h];simp [h]
theorem jU (a b c : Int) : dB.f a b c = some (decide (b ≤ a∧a ≤ c)):=by
  unfold dB.f
  by_cases h : b ≤ a
  · rw [if_pos h];simp [h]
  · rw [if_neg h];simp [h]
theorem has_eq (p x : Int) : cz.f p x = some (decide (0 ≤ x∧x < p)):=by
  unfold cz.f
  by_cases h : 0 ≤ x
  · rw [if_pos h];simp [h]
  · rw [if_neg h];simp [h]
theorem mQ {p : Int} (hp : Pm p) (x : Int) : bM.f p x = some (x % p):=by
  unfold bM.f
  rw [if_neg hp.ne,yK hp]

/-! ### primes -/
def uz (p : Int) (i : Nat) : Prop:=∀ j,j < 101 → i ≤ j → (j : Int) * (j : Int) ≤ p → p % (j : Int) ≠ 0
instance (p : Int) (i : Nat) : Decidable (uz p i):=by unfold uz;infer_instance
def dD (p : Int) : Bool:=decide (2 ≤ p∧p ≤ 10007) && decide (uz p 2)
theorem dD.pm {p : Int} (h : dD p = true) : Pm p:=by
  simp only [dD,Bool.and_eq_true,decide_eq_true_eq] at h
  exact ⟨h.1.1,h.1.2⟩
theorem vZ {p : Int} {i : Nat} (h : p % (i : Int) ≠ 0) : decide (uz p i) = decide (uz p (i + 1)):=by
  apply decide_eq_decide.2
  constructor
  · exact fun g j h1 h2 h3=>g j h1 (by omega) h3
  · intro g j h1 h2 h3
    by_cases e : j = i
    · subst e;exact h
    · exact g j h1 (by omega) h3
theorem qY {p : Int} {i : Nat} (h : p < (i : Int) * (i : Int)) : uz p i:=by
  intro j h1 h2 h3
  have:=GV (a:=(i : Int)) (b:=(i : Int)) (m:=(j : Int)) (n:=(j : Int)) (by omega) (by omega) (by omega) (by omega)
  omega
theorem sqB {i : Nat} (h : i ≤ 101) : 0 ≤ (i : Int) * (i : Int)∧(i : Int) * (i : Int) ≤ 10201:=by
  have:=GV (a:=(i : Int)) (b:=(i : Int)) (m:=101) (n:=101) (by omega) (by omega) (by omega) (by omega)
  omega
theorem yM {p : Int} (h2 : 2 ≤ p) (ht : p ≤ 10007) (d : Nat) : ∀ i,2 ≤ i → i + d = 101 → Ev (fun k=>dK.l0 k p (i : Int)) (decide (uz p i)):=by
  induction d with
  | zero =>
    intro i hi hd
    obtain rfl : i = 101:=by omega
    refine Ev.step (fun k=>by rw [dK.l0]) ?_
    refine Ev.neg (by rw [bQ (by omega) (by omega)];omega) (Ev.jO ?_)
    exact (decide_eq_true (qY (by omega))).symm
  | succ d ih =>
    intro i hi hd
    have hb:=sqB (i:=i) (by omega)
    refine Ev.step (fun k=>by rw [dK.l0]) ?_
    rw [bQ (x:=(i : Int) * (i : Int)) (by omega) (by omega),iG (by omega)]
    by_cases h : (i : Int) * (i : Int) ≤ p
    · refine Ev.pos h (Ev.neg (by omega) ?_)
      by_cases h3 : p % (i : Int) = 0
      · exact Ev.pos h3 (Ev.jO (decide_eq_false (fun g=>g i (by omega) (by omega) h h3)).symm)
      · refine Ev.neg h3 ?_
        rw [vZ h3,lT (i:=i) (n:=101) (by omega) (by omega)]
        exact ih (i + 1) (by omega) (by omega)
    · exact Ev.neg h (Ev.jO (decide_eq_true (qY (by omega))).symm)
theorem yN {p : Int} (h2 : 2 ≤ p) (ht : p ≤ 10007) (d : Nat) : ∀ i,2 ≤ i → i + d = 101 → Ev (fun k=>dE.l0 k p (i : Int)) (decide (uz p i)):=by
  induction d with
  | zero =>
    intro i hi hd
    obtain rfl : i = 101:=by omega
    refine Ev.step (fun k=>by rw [dE.l0]) ?_
    refine Ev.neg (by rw [bQ (by omega) (by omega)];omega) (Ev.jO ?_)
    exact (decide_eq_true (qY (by omega))).symm
  | succ d ih =>
    intro i hi hd
    have hb:=sqB (i:=i) (by omega)
    refine Ev.step (fun k=>by rw [dE.l0]) ?_
    rw [bQ (x:=(i : Int) * (i : Int)) (by omega) (by omega),iG (by omega)]
    by_cases h : (i : Int) * (i : Int) ≤ p
    · refine Ev.pos h (Ev.neg (by omega) ?_)
      by_cases h3 : p % (i : Int) = 0
      · exact Ev.pos h3 (Ev.jO (decide_eq_false (fun g=>g i (by omega) (by omega) h h3)).symm)
      · refine Ev.neg h3 ?_
        rw [vZ h3,lT (i:=i) (n:=101) (by omega) (by omega)]
        exact ih (i + 1) (by omega) (by omega)
    · exact Ev.neg h (Ev.jO (decide_eq_true (qY (by omega))).symm)
theorem sJ (p : Int) : Ev (fun k=>dK.f k p) (dD p):=by
  unfold dK.f dD
  refine Ev.dx (rJ _ _ _) ?_
  by_cases h : 2 ≤ p∧p ≤ 10007
  · refine Ev.pos (decide_eq_true h) ?_
    rw [decide_eq_true h,Bool.true_and]
    exact yM h.1 h.2 99 2 (by omega) (by omega)
  · refine Ev.neg (by simp [h]) (Ev.jO ?_)
    rw [decide_eq_false h,Bool.false_and]
theorem pI (p : Int) : Ev (fun k=>dE.f k p) (dD p):=by
  unfold dE.f dD
  refine Ev.dx (jU _ _ _) ?_
  by_cases h : 2 ≤ p∧p ≤ 10007
  · refine Ev.pos (decide_eq_true h) ?_
    rw [decide_eq_true h,Bool.true_and]
    exact yN h.1 h.2 99 2 (by omega) (by omega)
  · refine Ev.neg (by simp [h]) (Ev.jO ?_)
    rw [decide_eq_false h,Bool.false_and]

/-! ### numbers modulo p -/
theorem yO (p x : Int) (l : List Int) : Nm p (x :: l) ↔ (0 ≤ x∧x < p)∧Nm p l:=by
  constructor
  · exact fun h=>⟨h x (List.mem_cons_self ..),fun y hy=>h y (List.mem_cons_of_mem _ hy)⟩
  · exact fun h=>Nm.cons h.1.1 h.1.2 h.2
theorem Fu (p : Int) (l : List Int) : qF (fun z_=>cz.f p z_) l = some (decide (Nm p l)):=by
  induction l with
  | nil=>simp only [qF];rw [decide_eq_true (Nm.nil p)]
  | cons x l ih =>
    simp only [has_eq] at ih
    simp only [qF,has_eq,Option.bind_some]
    by_cases h : 0 ≤ x∧x < p
    · rw [if_pos (decide_eq_true h),ih]
      congr 1
      apply decide_eq_decide.2
      rw [yO]
      exact ⟨fun g=>⟨h,g⟩,fun g=>g.2⟩
    · rw [if_neg (by simp [h])]
      congr 1
      exact (decide_eq_false (fun g=>h ((yO p x l).1 g).1)).symm
theorem wu (p : Int) (l : List Int) (hl : l.length < 4611686018427387904) : dP.f l (fun z_=>cz.f p z_) = some (decide (Nm p l)):=by
  unfold dP.f
  rw [if_pos hl,Fu]
theorem sK {p : Int} {l : List Int} {i : Nat} (h : i < l.length) : Nm p (l.drop i) ↔ (0 ≤ l.getD i 0∧l.getD i 0 < p)∧Nm p (l.drop (i + 1)):=by
  rw [qW l 0 i h,yO]
/-! ### sums -/
def sumTo (g : Nat → Int) : Nat → Int
  | 0=>0
  | n + 1=>sumTo g n + g n
/- Data of recurrences: which lists are such data, for the program and for the reference; their codes; no condition. -/
/-- Numbers modulo p other than 0. -/
def Um (p : Int) (l : List Int) : Prop:=∀ x ∈ l,1 ≤ x∧x < p
instance (p : Int) (l : List Int) : Decidable (Um p l):=by unfold Um;infer_instance
theorem Um.nil (p : Int) : Um p []:=fun x h=>by cases h
theorem yP (p x : Int) (l : List Int) : Um p (x :: l) ↔ (1 ≤ x∧x < p)∧Um p l:=by
  constructor
  · exact fun h=>⟨h x (List.mem_cons_self ..),fun y hy=>h y (List.mem_cons_of_mem _ hy)⟩
  · intro h y hy
    rcases List.mem_cons.1 hy with rfl | hy
    · exact h.1
    · exact h.2 y hy
theorem Um.nm {p : Int} {l : List Int} (h : Um p l) : Nm p l:=fun x hx=>by have:=h x hx;omega
theorem CY {p : Int} {l : List Int} {i : Nat} (h : i < l.length) : Um p (l.drop i) ↔ (1 ≤ l.getD i 0∧l.getD i 0 < p)∧Um p (l.drop (i + 1)):=by
  rw [qW l 0 i h,yP]
theorem qZ {p : Int} (hp : -9223372036854775807 ≤ p) (hp' : p ≤ 9223372036854775807) (x : Int) : bW.f p x = some (decide (1 ≤ x∧x < p)):=by
  unfold bW.f
  rw [jU,bQ (by omega) (by omega)]
  simp only [Option.bind_some]
  congr 1
  apply decide_eq_decide.2
  omega
theorem DR {p : Int} (hp : -9223372036854775807 ≤ p) (hp' : p ≤ 9223372036854775807) (l : List Int) : qF (fun z_=>bW.f p z_) l = some (decide (Um p l)):=by
  induction l with
  | nil=>simp only [qF];rw [decide_eq_true (Um.nil p)]
  | cons x l ih =>
    simp only [qZ hp hp'] at ih
    simp only [qF,qZ hp hp',Option.bind_some]
    by_cases h : 1 ≤ x∧x < p
    · rw [if_pos (decide_eq_true h),ih]
      congr 1
      apply decide_eq_decide.2
      rw [yP]
      exact ⟨fun g=>⟨h,g⟩,fun g=>g.2⟩
    · rw [if_neg (by simp [h])]
      congr 1
      exact (decide_eq_false (fun g=>h ((yP p x l).1 g).1)).symm
theorem zN {p : Int} (hp : -9223372036854775807 ≤ p) (hp' : p ≤ 9223372036854775807) (l : List Int) (hl : l.length < 4611686018427387904) : dP.f l (fun z_=>bW.f p z_) = some (decide (Um p l)):=by
  unfold dP.f
  rw [if_pos hl,DR hp hp']

def iI (p : Int) (a b : List Int) : Bool:=dD p && decide (((1 ≤ a.length∧a.length ≤ 12)∧b.length = a.length)∧(Nm p a∧Um p b))
theorem iI.o7 {p : Int} {a b : List Int} (h : iI p a b = true) : dD p = true:=by simp only [iI,Bool.and_eq_true] at h;exact h.1
theorem iI.pm {p : Int} {a b : List Int} (h : iI p a b = true) : Pm p:=dD.pm (iI.o7 h)
theorem iI.all {p : Int} {a b : List Int} (h : iI p a b = true) : ((1 ≤ a.length∧a.length ≤ 12)∧b.length = a.length)∧(Nm p a∧Um p b):=by
  simp only [iI,Bool.and_eq_true,decide_eq_true_eq] at h;exact h.2

theorem BL {p : Int} (hp : Pm p) (a b : List Int) (hl : Sm a.length) (hab : b.length = a.length) (d : Nat) : ∀ i,i + d = a.length →
    Ev (fun k=>bK.l0 k (i : Int) p a b) (decide (Nm p (a.drop i)∧Um p (b.drop i))):=by
  induction d with
  | zero =>
    intro i hi
    refine Ev.step (fun k=>by rw [bK.l0]) ?_
    refine Ev.neg (by omega) (Ev.jO ?_)
    rw [List.drop_eq_nil_of_le (by omega),List.drop_eq_nil_of_le (by omega)]
    exact (decide_eq_true ⟨Nm.nil p,Um.nil p⟩).symm
  | succ d ih =>
    intro i hi
    unfold Sm at hl
    have h2:=hp.two
    have ht:=hp.top
    refine Ev.step (fun k=>by rw [bK.l0]) ?_
    refine Ev.pos (by omega) (Ev.pos (by omega) (Ev.dx (rJ _ _ _) ?_))
    rw [fw,fw,bQ (x:=p - 1) (by omega) (by omega)]
    by_cases h : 0 ≤ a.getD i 0∧a.getD i 0 ≤ p - 1
    · refine Ev.pos (decide_eq_true h) (Ev.pos (by omega) (Ev.dx (rJ _ _ _) ?_))
      by_cases g : 1 ≤ b.getD i 0∧b.getD i 0 ≤ p - 1
      · refine Ev.pos (decide_eq_true g) ?_
        rw [lT (i:=i) (n:=a.length) (by omega) (by omega)]
        refine Ev.cast (ih (i + 1) (by omega)) ?_
        apply decide_eq_decide.2
        rw [sK (l:=a) (i:=i) (by omega),CY (l:=b) (i:=i) (by omega)]
        exact ⟨fun q=>⟨⟨by omega,q.1⟩,⟨by omega,q.2⟩⟩,fun q=>⟨q.1.2,q.2.2⟩⟩
      · refine Ev.neg (by simp only [decide_eq_true_eq];exact g) (Ev.jO ?_)
        exact (decide_eq_false (fun q=>g (by have:=((CY (p:=p) (l:=b) (i:=i) (by omega)).1 q.2).1;omega))).symm
    · refine Ev.neg (by simp only [decide_eq_true_eq];exact h) (Ev.jO ?_)
      exact (decide_eq_false (fun q=>h (by have:=((sK (p:=p) (l:=a) (i:=i) (by omega)).1 q.1).1;omega))).symm
theorem oF (p : Int) (a b : List Int) (ha : Sm a.length) (_hb : Sm b.length) : Ev (fun k=>bK.f k p a b) (iI p a b):=by
  unfold bK.f iI
  refine Ev.bind (sJ p) ?_
  by_cases hp : dD p = true
  · rw [hp,Bool.true_and]
    refine Ev.pos rfl ?_
    by_cases h1 : 1 ≤ a.length
    · refine Ev.neg (by omega) ?_
      by_cases h2 : a.length ≤ 12
      · refine Ev.neg (by omega) ?_
        by_cases h3 : b.length = a.length
        · rw [show (((b.length : Int) != (a.length : Int)) : Bool) = false from by simp [h3]]
          refine Ev.step (fun k=>by rw [bK.j0]) ?_
          refine Ev.neg (by decide) ?_
          refine Ev.cast (BL (dD.pm hp) a b ha h3 a.length 0 (by omega)) ?_
          apply decide_eq_decide.2
          exact ⟨fun g=>⟨⟨⟨h1,h2⟩,h3⟩,g⟩,fun g=>g.2⟩
        · rw [show (((b.length : Int) != (a.length : Int)) : Bool) = true from by simp;omega]
          refine Ev.step (fun k=>by rw [bK.j0]) ?_
          refine Ev.pos rfl (Ev.jO (decide_eq_false (fun g=>h3 g.1.2)).symm)
      · refine Ev.pos (by omega) ?_
        refine Ev.step (fun k=>by rw [bK.j0]) ?_
        refine Ev.pos rfl (Ev.jO (decide_eq_false (fun g=>h2 g.1.1.2)).symm)
    · refine Ev.pos (by omega) ?_
      refine Ev.step (fun k=>by rw [bK.j0]) ?_
      refine Ev.pos rfl (Ev.jO (decide_eq_false (fun g=>h1 g.1.1.1)).symm)
  · rw [Bool.eq_false_iff.2 hp,Bool.false_and]
    refine Ev.neg (by simp) ?_
    refine Ev.step (fun k=>by rw [bK.j0]) ?_
    exact Ev.pos rfl (Ev.now _)
theorem size_eq (p : Int) (a b : List Int) : bB.f p a b = some (a.length : Int):=by
  unfold bB.f eO.f;rfl
theorem BM (p : Int) (a b : List Int) (ha : Sm a.length) (hb : Sm b.length) : Ev (fun k=>dF.f k p a b) (iI p a b):=by
  unfold dF.f iI
  refine Ev.bind (pI p) ?_
  have ha':=ha
  have hb':=hb
  unfold Sm at ha' hb'
  by_cases hp : dD p = true
  · have h2:=(dD.pm hp).two
    have ht:=(dD.pm hp).top
    rw [hp,Bool.true_and]
    refine Ev.pos rfl (Ev.dx (size_eq p a b) (Ev.dx (jU _ _ _) ?_))
    by_cases h1 : 1 ≤ a.length∧a.length ≤ 12
    · refine Ev.pos (decide_eq_true (by omega)) ?_
      by_cases h3 : b.length = a.length
      · refine Ev.pos (by omega) (Ev.dx (a:=p) rfl (Ev.dx (wu p a (by omega)) ?_))
        by_cases h4 : Nm p a
        · refine Ev.pos (decide_eq_true h4) (Ev.dx (a:=p) rfl (Ev.dx (zN (by omega) (by omega) b (by omega)) (Ev.jO ?_)))
          apply decide_eq_decide.2
          exact ⟨fun g=>⟨⟨h1,h3⟩,h4,g⟩,fun g=>g.2.2⟩
        · refine Ev.neg (by simp only [decide_eq_true_eq];exact h4) (Ev.jO ?_)
          exact (decide_eq_false (fun g=>h4 g.2.1)).symm
      · exact Ev.neg (by omega) (Ev.jO (decide_eq_false (fun g=>h3 g.1.2)).symm)
    · refine Ev.neg (by simp only [decide_eq_true_eq];omega) (Ev.jO ?_)
      exact (decide_eq_false (fun g=>h1 g.1.1)).symm
  · rw [Bool.eq_false_iff.2 hp,Bool.false_and]
    exact Ev.neg (by simp) (Ev.now _)
/-- The code of data and a range. -/
def oW (p : Int) (a b : List Int) (r : Bool) : Int:=if iI p a b = true then (if r = true then 0 else 2) else 1
theorem kK (p : Int) (a b : List Int) (r : Bool) (ha : Sm a.length) (hb : Sm b.length) : Ev (fun k=>bR.f k p a b r) (oW p a b r):=by
  unfold bR.f oW
  refine Ev.bind (BM p a b ha hb) ?_
  by_cases h : iI p a b = true
  · rw [if_pos h,if_pos h]
    by_cases g : r = true
    · rw [if_pos g,if_pos g];exact Ev.now _
    · rw [if_neg g,if_neg g];exact Ev.now _
  · rw [if_neg h,if_neg h];exact Ev.now _
theorem qH (p : Int) (a b : List Int) (k lo hi : Int) (ha : Sm a.length) (hb : Sm b.length) : Ev (fun n=>gV.f n p a b k lo hi) (oW p a b (decide (lo ≤ k∧k ≤ hi))):=by
  unfold gV.f oW
  refine Ev.bind (oF p a b ha hb) ?_
  by_cases h : iI p a b = true
  · rw [if_pos h,if_pos h]
    refine Ev.dx (rJ _ _ _) ?_
    by_cases g : decide (lo ≤ k∧k ≤ hi) = true
    · rw [if_pos g,if_pos g];exact Ev.now _
    · rw [if_neg g,if_neg g];exact Ev.now _
  · rw [if_neg h,if_neg h];exact Ev.now _
theorem IC {p : Int} {a b : List Int} {r : Bool} (h : oW p a b r = 0) : iI p a b = true∧r = true:=by
  unfold oW at h
  split at h
  · split at h
    · exact ⟨‹_›,‹_›⟩
    · omega
  · omega
/- AffineJacobi: for all arguments the program and the reference come to one value; no condition. -/
theorem Fv {p : Int} (hp : Pm p) {x y : Int} (hx : 0 ≤ x∧x < p) (hy : 0 ≤ y∧y < p) : dZ.f p x y = some (x * y % p):=by
  unfold dZ.f
  have h:=rz hp hx.1 hx.2 hy.1 hy.2
  rw [bQ (by omega) (by omega),mQ hp];rfl
theorem BN (p x : Int) : bW.f p x = some (decide (1 ≤ x∧x ≤ wrap64 (p - 1))):=by
  unfold bW.f
  rw [jU];rfl
def ky (p m c : Int) : Nat → Nat → List Int → List Int → List Int × List Int
  | 0,_,a,b=>(a,b)
  | d + 1,i,a,b=>ky p m c d (i + 1) (a.set i ((m * a.getD i 0 + c) % p)) (if 0 < i then b.set i (m * m % p * b.getD i 0 % p) else b)
theorem GY {p m c : Int} (hp : Pm p) (hm : 0 ≤ m∧m < p) (hc : 0 ≤ c∧c < p) (a0 b0 : List Int) (d : Nat) : ∀ (i : Nat) (a b : List Int),i + d = a.length → a.length ≤ 12 → b.length = a.length → Nm p a → Nm p b →
    Ev (fun n=>aU.l0 n m c (i : Int) p a0 b0 p a b) (p,(ky p m c d i a b).1,(ky p m c d i a b).2,0)∧Ev (fun n=>aD.l0 n m c p (a.length : Int) (i : Int) p a b) (p,(ky p m c d i a b).1,(ky p m c d i a b).2,0)∧Sm (ky p m c d i a b).1.length∧Sm (ky p m c d i a b).2.length:=by
  induction d with
  | zero =>
    intro i a b hi hl hb hna hnb
    refine ⟨?_,?_,by unfold Sm;dsimp only [ky];omega,by unfold Sm;dsimp only [ky];omega⟩
    · refine Ev.step (fun n=>by rw [aU.l0]) ?_
      exact Ev.neg (by omega) (Ev.now _)
    · refine Ev.step (fun n=>by rw [aD.l0]) ?_
      exact Ev.neg (by omega) (Ev.now _)
  | succ d ih =>
    intro i a b hi hl hb hna hnb
    have h1:=hna.get (i:=i) (by omega)
    have h2:=hnb.get (i:=i) (by omega)
    have h3:=rz hp hm.1 hm.2 h1.1 h1.2
    have h4:=rz hp hm.1 hm.2 hm.1 hm.2
    have hq:=iD hp.pos (m * m)
    have h5:=rz hp hq.1 hq.2 h2.1 h2.2
    have ht:=hp.top
    have ea:=iD hp.pos (m * a.getD i 0 + c)
    have eb:=iD hp.pos (m * m % p * b.getD i 0)
    have w1 : wrap64 (m * a.getD i 0) = m * a.getD i 0:=bQ (by omega) (by omega)
    have w2 : wrap64 (m * a.getD i 0 + c) = m * a.getD i 0 + c:=bQ (by omega) (by omega)
    have w3 : wrap64 (m * m) = m * m:=bQ (by omega) (by omega)
    have w4 : wrap64 (m * m % p * b.getD i 0) = m * m % p * b.getD i 0:=bQ (by omega) (by omega)
    by_cases g : 0 < i
    · rw [ky,if_pos g]
      obtain ⟨e1,e2,e3,e4⟩:=ih (i + 1) (a.set i ((m * a.getD i 0 + c) % p)) (b.set i (m * m % p * b.getD i 0 % p)) (by rw [List.length_set];omega) (by rw [List.length_set];omega) (by rw [List.length_set,List.length_set];omega) (hna.set ea.1 ea.2 i) (hnb.set eb.1 eb.2 i)
      refine ⟨?_,?_,e3,e4⟩
      · refine Ev.step (fun n=>by rw [aU.l0]) ?_
        refine Ev.pos (by omega) (Ev.pos (by omega) (Ev.neg hp.ne (Ev.dx rfl (Ev.pos (by omega) (Ev.pos (by omega) ?_)))))
        rw [fw,fw,eT,w1,w2,w3,iG (a:=m * a.getD i 0 + c) (by omega),iG (a:=m * m) (by omega),w4,iG (a:=m * m % p * b.getD i 0) (by omega),lT (i:=i) (n:=a.length) (by omega) (by omega)]
        exact e1
      · rw [List.length_set] at e2
        refine Ev.step (fun n=>by rw [aD.l0]) ?_
        refine Ev.pos (by omega) (Ev.pos (by omega) (Ev.pos (by omega) ?_))
        rw [fw,w1,w2]
        refine Ev.dx (mQ hp _) (Ev.dx rfl (Ev.pos (by omega) (Ev.dx (Fv hp hm hm) (Ev.pos (by omega) ?_))))
        rw [fw]
        refine Ev.dx (Fv hp hq h2) ?_
        rw [eT,lT (i:=i) (n:=a.length) (by omega) (by omega)]
        exact e2
    · rw [ky,if_neg g]
      obtain ⟨e1,e2,e3,e4⟩:=ih (i + 1) (a.set i ((m * a.getD i 0 + c) % p)) b (by rw [List.length_set];omega) (by rw [List.length_set];omega) (by rw [List.length_set];omega) (hna.set ea.1 ea.2 i) hnb
      refine ⟨?_,?_,e3,e4⟩
      · refine Ev.step (fun n=>by rw [aU.l0]) ?_
        refine Ev.pos (by omega) (Ev.pos (by omega) (Ev.neg hp.ne (Ev.dx rfl (Ev.neg (by omega) ?_))))
        rw [fw,eT,w1,w2,iG (by omega),lT (i:=i) (n:=a.length) (by omega) (by omega)]
        exact e1
      · rw [List.length_set] at e2
        refine Ev.step (fun n=>by rw [aD.l0]) ?_
        refine Ev.pos (by omega) (Ev.pos (by omega) (Ev.pos (by omega) ?_))
        rw [fw,w1,w2]
        refine Ev.dx (mQ hp _) (Ev.dx rfl (Ev.neg (by omega) ?_))
        rw [eT,lT (i:=i) (n:=a.length) (by omega) (by omega)]
        exact e2
theorem tV (p : Int) (a b : List Int) (m c : Int) (ha : Sm a.length) (hb : Sm b.length) :
    ∃ v : Int × List Int × List Int × Int,Ev (fun n=>aU.f n p a b m c) v∧Ev (fun n=>aD.f n p a b m c) v∧(Sm v.2.1.length∧Sm v.2.2.1.length)∧(v.2.2.2 = 0 → iI p a b = true∧(1 ≤ m∧m < p)∧(0 ≤ c∧c < p)∧v = (p,(ky p m c a.length 0 a b).1,(ky p m c a.length 0 a b).2,0)):=by
  by_cases h : iI p a b = true
  · have hp:=iI.pm h
    have h2:=hp.two
    have ht:=hp.top
    have h4:=iI.all h
    have hw : wrap64 (p - 1) = p - 1:=bQ (by omega) (by omega)
    have hi : ∀ r,Ev (fun n=>bR.f n p a b r) (if r = true then 0 else 2):=fun r=>by
      have:=kK p a b r ha hb
      unfold oW at this
      rwa [if_pos h] at this
    by_cases g : (1 ≤ m∧m < p)∧(0 ≤ c∧c < p)
    · obtain ⟨e1,e2,e3,e4⟩:=GY hp (m:=m) (c:=c) (by omega) (by omega) a b a.length 0 a b (by omega) (by omega) (by omega) h4.2.1 h4.2.2.nm
      refine ⟨(p,(ky p m c a.length 0 a b).1,(ky p m c a.length 0 a b).2,0),?_,?_,⟨e3,e4⟩,fun _=>⟨h,g.1,g.2,rfl⟩⟩
      · unfold aU.f
        refine Ev.bind (oF p a b ha hb) (Ev.pos h ?_)
        rw [hw]
        refine Ev.dx (rJ _ _ _) (Ev.pos (decide_eq_true (by omega)) (Ev.dx (rJ _ _ _) (Ev.pos (decide_eq_true (by omega)) (Ev.dx (a:=(p,a,b)) ?_ e1))))
        unfold fF.f
        rw [if_pos (by omega),if_pos (by omega),eT,List.take_length,mZ _ ha,Option.bind_some,if_pos (by omega),show b.take a.length = b from List.take_of_length_le (by omega),mZ _ hb]
        rfl
      · unfold aD.f
        refine Ev.dx (a:=p) rfl (Ev.dx (qZ (by omega) (by omega) m) (Ev.pos (decide_eq_true g.1) (Ev.dx (a:=p) rfl (Ev.dx (has_eq p c) (Ev.bind (hi _) ?_)))))
        rw [if_pos (decide_eq_true g.2)]
        refine Ev.step (fun n=>by rw [aD.j0]) ?_
        refine Ev.pos rfl (Ev.dx (a:=p) rfl (Ev.dx (size_eq p a b) (Ev.dx (a:=(p,a,b)) ?_ e2)))
        unfold bI.f
        rw [if_pos (by omega),if_pos (by omega),if_pos (by omega),eT,List.take_length,show (0 : Int).toNat = 0 from rfl,List.drop_zero,List.drop_zero,pu _ ha,Option.bind_some,if_pos (by omega),show b.take a.length = b from List.take_of_length_le (by omega),pu _ hb]
        rfl
    · refine ⟨(0,[],[],2),?_,?_,⟨Sm0,Sm0⟩,fun h=>absurd h (show (2 : Int) ≠ 0 by decide)⟩
      · unfold aU.f
        refine Ev.bind (oF p a b ha hb) (Ev.pos h ?_)
        rw [hw]
        refine Ev.dx (rJ _ _ _) ?_
        by_cases g1 : 1 ≤ m∧m ≤ p - 1
        · exact Ev.pos (decide_eq_true g1) (Ev.dx (rJ _ _ _) (Ev.neg (by simp only [decide_eq_true_eq];omega) (Ev.now _)))
        · exact Ev.neg (by simp only [decide_eq_true_eq];exact g1) (Ev.now _)
      · unfold aD.f
        refine Ev.dx (a:=p) rfl (Ev.dx (qZ (by omega) (by omega) m) ?_)
        by_cases g1 : 1 ≤ m∧m < p
        · refine Ev.pos (decide_eq_true g1) (Ev.dx (a:=p) rfl (Ev.dx (has_eq p c) (Ev.bind (hi _) ?_)))
          rw [if_neg (by simp only [decide_eq_true_eq];exact fun q=>g ⟨g1,q⟩)]
          refine Ev.step (fun n=>by rw [aD.j0]) ?_
          exact Ev.neg (by decide) (Ev.now _)
        · refine Ev.neg (by simp only [decide_eq_true_eq];exact g1) (Ev.bind (hi _) ?_)
          rw [if_neg (by decide)]
          refine Ev.step (fun n=>by rw [aD.j0]) ?_
          exact Ev.neg (by decide) (Ev.now _)
  · have hi : ∀ r,Ev (fun n=>bR.f n p a b r) 1:=fun r=>by
      have:=kK p a b r ha hb
      unfold oW at this
      rwa [if_neg h] at this
    have sj:=oF p a b ha hb
    refine ⟨(0,[],[],1),?_,?_,⟨Sm0,Sm0⟩,fun h=>absurd h (show (1 : Int) ≠ 0 by decide)⟩
    · unfold aU.f
      exact Ev.bind sj (Ev.neg h (Ev.now _))
    · unfold aD.f
      refine Ev.dx (a:=p) rfl (Ev.dx (BN p m) ?_)
      by_cases g : decide (1 ≤ m∧m ≤ wrap64 (p - 1)) = true
      · refine Ev.pos g (Ev.dx (a:=p) rfl (Ev.dx (has_eq p c) (Ev.bind (hi _) ?_)))
        refine Ev.step (fun n=>by rw [aD.j0]) ?_
        exact Ev.neg (by decide) (Ev.now _)
      · refine Ev.neg g (Ev.bind (hi _) ?_)
        refine Ev.step (fun n=>by rw [aD.j0]) ?_
        exact Ev.neg (by decide) (Ev.now _)
/- CutJacobi: for all arguments the program and the reference come to one value; no condition. -/
theorem ww (p : Int) (a b : List Int) (k : Int) (ha : Sm a.length) (hb : Sm b.length) :
    ∃ v : Int × List Int × List Int × Int,Ev (fun n=>iQ.f n p a b k) v∧Ev (fun n=>iR.f n p a b k) v∧Sm v.2.1.length∧Sm v.2.2.1.length:=by
  have hs:=qH p a b k 1 (a.length : Int) ha hb
  have hi:=kK p a b (decide (1 ≤ k∧k ≤ (a.length : Int))) ha hb
  by_cases h : oW p a b (decide (1 ≤ k∧k ≤ (a.length : Int))) = 0
  · obtain ⟨h1,h2⟩:=IC h
    have h3:=of_decide_eq_true h2
    have h4:=iI.all h1
    refine ⟨(p,a.take k.toNat,b.take k.toNat,0),?_,?_,ha.take _,hb.take _⟩
    · unfold iQ.f
      refine Ev.bind hs (Ev.pos h (Ev.dx (a:=(p,a.take k.toNat,b.take k.toNat)) ?_ (Ev.now _)))
      unfold fF.f
      rw [if_pos (by omega),if_pos (by omega),mZ _ (ha.take _),Option.bind_some,if_pos (by omega),mZ _ (hb.take _)]
      rfl
    · unfold iR.f
      refine Ev.dx (size_eq p a b) (Ev.dx (jU _ _ _) (Ev.bind hi (Ev.pos h (Ev.dx (a:=(p,a.take k.toNat,b.take k.toNat)) ?_ (Ev.now _)))))
      unfold bI.f
      rw [if_pos (by omega),if_pos (by omega),if_pos (by omega),show (0 : Int).toNat = 0 from rfl,List.drop_zero,List.drop_zero,pu _ (ha.take _),Option.bind_some,if_pos (by omega),pu _ (hb.take _)]
      rfl
  · refine ⟨(0,[],[],oW p a b (decide (1 ≤ k∧k ≤ (a.length : Int)))),?_,?_,Sm0,Sm0⟩
    · unfold iQ.f
      exact Ev.bind hs (Ev.neg h (Ev.now _))
    · unfold iR.f
      exact Ev.dx (size_eq p a b) (Ev.dx (jU _ _ _) (Ev.bind hi (Ev.neg h (Ev.now _))))
/- ShiftJacobi: for all arguments the program and the reference come to one value; no condition. -/
theorem tX (p : Int) (a b : List Int) (k : Int) (ha : Sm a.length) (hb : Sm b.length) :
    ∃ v : Int × List Int × List Int × Int,Ev (fun n=>dR.f n p a b k) v∧Ev (fun n=>dL.f n p a b k) v∧Sm v.2.1.length∧Sm v.2.2.1.length:=by
  have ha':=ha
  unfold Sm at ha'
  have hw : wrap64 ((a.length : Int) - 1) = (a.length : Int) - 1:=bQ (by omega) (by omega)
  have hs:=qH p a b k 0 ((a.length : Int) - 1) ha hb
  have hi:=kK p a b (decide (0 ≤ k∧k ≤ (a.length : Int) - 1)) ha hb
  by_cases h : oW p a b (decide (0 ≤ k∧k ≤ (a.length : Int) - 1)) = 0
  · obtain ⟨h1,h2⟩:=IC h
    have h3:=of_decide_eq_true h2
    have h4:=iI.all h1
    refine ⟨(p,a.drop k.toNat,b.drop k.toNat,0),?_,?_,ha.drop _,hb.drop _⟩
    · unfold dR.f
      rw [hw]
      refine Ev.bind hs (Ev.pos h (Ev.pos (by omega) (Ev.pos (by omega) (Ev.dx (mZ _ (ha.drop _)) (Ev.pos (by omega) (Ev.dx (mZ _ (hb.drop _)) (Ev.now _)))))))
    · unfold dL.f
      refine Ev.dx (size_eq p a b) ?_
      rw [hw]
      refine Ev.dx (jU _ _ _) (Ev.bind hi (Ev.pos h (Ev.dx (size_eq p a b) (Ev.dx (a:=(p,a.drop k.toNat,b.drop k.toNat)) ?_ (Ev.now _)))))
      unfold bI.f
      rw [if_pos (by omega),if_pos (by omega),if_pos (by omega),show ((a.length : Int)).toNat = a.length from rfl,List.take_length,show b.take a.length = b from List.take_of_length_le (by omega),pu _ (ha.drop _),Option.bind_some,if_pos (by omega),pu _ (hb.drop _)]
      rfl
  · refine ⟨(0,[],[],oW p a b (decide (0 ≤ k∧k ≤ (a.length : Int) - 1))),?_,?_,Sm0,Sm0⟩
    · unfold dR.f
      rw [hw]
      exact Ev.bind hs (Ev.neg h (Ev.now _))
    · unfold dL.f
      refine Ev.dx (size_eq p a b) ?_
      rw [hw]
      exact Ev.dx (jU _ _ _) (Ev.bind hi (Ev.neg h (Ev.now _)))
/- Polynomials and the program's code for them; no condition. -/
/-! ### polynomials -/
def tY (l : List Int) : Bool:=decide (l.length = 0) || (l.getD (l.length - 1) 0 != 0)
def jH (p : Int) (l : List Int) : Bool:=decide (Nm p l) && (decide (l.length ≤ 25) && tY l)
theorem zO (l : List Int) (hl : Sm l.length) :
    (if (l.length : Int) = 0 then (some true) else (if 0 ≤ (wrap64 ((l.length : Int) - 1)) then (if (wrap64 ((l.length : Int) - 1)) < (l.length : Int) then (some ((rd l (wrap64 ((l.length : Int) - 1))) != 0)) else none) else none)) = some (tY l):=by
  unfold tY
  by_cases h : l.length = 0
  · rw [if_pos (by omega)];simp [h]
  · rw [if_neg (by omega),nT (by omega) (by unfold Sm at hl;omega),if_pos (by omega),if_pos (by omega),fw]
    simp [h]
theorem zP (p : Int) (l : List Int) (hl : Sm l.length) : kM.f p l = some (jH p l):=by
  unfold kM.f jH
  by_cases h : l.length ≤ 25
  · rw [if_pos (by omega),wu p l (by omega),Option.bind_some]
    by_cases hn : Nm p l
    · rw [if_pos (decide_eq_true hn),zO l hl];simp [h,hn]
    · rw [if_neg (by simp [hn])];simp [hn]
  · rw [if_neg (by omega)];simp [h]
theorem DT (p : Int) (ls : List (List Int)) (hl : ∀ l ∈ ls,Sm l.length) : qF (fun z_=>eF.f z_ p) ls = some (ls.all (jH p)):=by
  induction ls with
  | nil=>rfl
  | cons l ls ih =>
    have e : eF.f l p = some (jH p l):=by
      unfold eF.f
      rw [zP p l (hl l (List.mem_cons_self ..))];rfl
    simp only [qF,e,Option.bind_some,List.all_cons]
    by_cases h : jH p l = true
    · rw [if_pos h,ih (fun m hm=>hl m (List.mem_cons_of_mem _ hm)),h,Bool.true_and]
    · rw [if_neg h,Bool.eq_false_iff.2 h,Bool.false_and]
theorem zQ (p : Int) (b : Bool) (ls : List (List Int)) (hs : Sm ls.length) (hl : ∀ l ∈ ls,Sm l.length) :
    Ev (fun k=>iP.f k p b ls) (if ls.all (jH p) then (if dD p && b then 0 else 2) else 1):=by
  unfold iP.f
  have e : fU.f ls (fun z_=>eF.f z_ p) = some (ls.all (jH p)):=by
    unfold fU.f
    rw [if_pos (by unfold Sm at hs;omega),DT p ls hl]
  refine Ev.dx e ?_
  by_cases h : ls.all (jH p) = true
  · refine Ev.pos h (Ev.bind (pI p) ?_)
    rw [if_pos h]
    cases dD p <;> cases b <;> exact ⟨0,fun _ _=>rfl⟩
  · refine Ev.neg h (Ev.jO ?_)
    rw [if_neg h]
/- Small facts of polynomials; no condition. -/
theorem jH.len {p : Int} {f : List Int} (h : jH p f = true) : f.length ≤ 25:=by
  simp only [jH,Bool.and_eq_true,decide_eq_true_eq] at h;exact h.2.1
/- Polynomials: the reference's test; no condition. -/
theorem zR (p : Int) (l : List Int) (hl : Sm l.length) (d : Nat) : ∀ i,i + d = l.length → Ev (fun k=>fD.l0 k p l (i : Int)) (decide (Nm p (l.drop i)) && (decide (l.length ≤ 25) && tY l)):=by
  induction d with
  | zero =>
    intro i hi
    refine Ev.step (fun k=>by rw [fD.l0]) ?_
    refine Ev.neg (by omega) ?_
    rw [List.drop_eq_nil_of_le (by omega),decide_eq_true (Nm.nil p),Bool.true_and]
    by_cases h : l.length ≤ 25
    · refine Ev.pos (by omega) (Ev.eq ?_)
      rw [zO l hl];simp [h]
    · exact Ev.neg (by omega) (Ev.jO (by simp [h]))
  | succ d ih =>
    intro i hi
    refine Ev.step (fun k=>by rw [fD.l0]) ?_
    refine Ev.pos (by omega) (Ev.pos (by omega) ?_)
    rw [fw,lT (i:=i) (n:=l.length) (by omega) (by unfold Sm at hl;omega)]
    by_cases h : l.getD i 0 < 0
    · refine Ev.pos h (Ev.jO ?_)
      rw [decide_eq_false (fun g=>by have:=((sK (by omega : i < l.length)).1 g).1.1;omega),Bool.false_and]
    · refine Ev.neg h ?_
      by_cases h' : p ≤ l.getD i 0
      · refine Ev.pos h' (Ev.jO ?_)
        rw [decide_eq_false (fun g=>by have:=((sK (by omega : i < l.length)).1 g).1.2;omega),Bool.false_and]
      · refine Ev.neg h' (Ev.cast (ih (i + 1) (by omega)) ?_)
        congr 1
        apply decide_eq_decide.2
        rw [sK (by omega : i < l.length)]
        exact ⟨fun g=>⟨⟨by omega,by omega⟩,g⟩,fun g=>g.2⟩
theorem zS (p : Int) (l : List Int) (hl : Sm l.length) : Ev (fun k=>fD.f k p l) (jH p l):=by
  unfold fD.f jH
  simpa using zR p l hl l.length 0 (by omega)
/- The reference's code of a o7 and polynomials; no condition. -/
theorem wZ (p : Int) (ls : List (List Int)) (hs : Sm ls.length) (hl : ∀ l ∈ ls,Sm l.length) (d : Nat) : ∀ i,i + d = ls.length →
    Ev (fun k=>fQ.l0 k p ls (i : Int)) (if (ls.drop i).all (jH p) then (if dD p then 0 else 2) else 1):=by
  induction d with
  | zero =>
    intro i hi
    refine Ev.step (fun k=>by rw [fQ.l0]) ?_
    rw [List.drop_eq_nil_of_le (by omega)]
    refine Ev.neg (by omega) (Ev.bind (sJ p) ?_)
    by_cases h : dD p = true
    · exact Ev.pos h (Ev.jO (by simp [h]))
    · exact Ev.neg h (Ev.jO (by simp [h]))
  | succ d ih =>
    intro i hi
    have hi' : i < ls.length:=by omega
    refine Ev.step (fun k=>by rw [fQ.l0]) ?_
    refine Ev.pos (by omega) (Ev.pos (by omega) ?_)
    rw [yJ,List.drop_eq_getElem_cons hi',List.all_cons,show ls.getD i [] = ls[i] from by rw [List.getD_eq_getElem?_getD,List.getElem?_eq_getElem hi'];rfl]
    refine Ev.bind (zS p _ (hl _ (List.getElem_mem hi'))) ?_
    by_cases h : jH p ls[i] = true
    · refine Ev.pos h ?_
      rw [h,Bool.true_and,lT (i:=i) (n:=ls.length) (by omega) (by unfold Sm at hs;omega)]
      exact ih (i + 1) (by omega)
    · refine Ev.neg h (Ev.jO ?_)
      rw [Bool.eq_false_iff.2 h,Bool.false_and]
      rfl
theorem xq (p : Int) (ls : List (List Int)) (hs : Sm ls.length) (hl : ∀ l ∈ ls,Sm l.length) : Ev (fun k=>fQ.f k p ls) (if ls.all (jH p) then (if dD p then 0 else 2) else 1) :=
  wZ p ls hs hl ls.length 0 (by omega)
theorem jH.pl {p : Int} {l : List Int} (h : jH p l = true) : Nm p l∧jr l = l∧l.length ≤ 25:=by
  simp only [jH,tY,Bool.and_eq_true,decide_eq_true_eq,Bool.or_eq_true,bne_iff_ne,ne_eq] at h
  obtain ⟨h1,h2,h3⟩:=h
  refine ⟨h1,?_,h2⟩
  rcases h3 with h3 | h3
  · rw [List.length_eq_zero_iff.1 h3];rfl
  · obtain ⟨l',x,rfl⟩ | rfl : (∃ l' x,l = l' ++ [x]) ∨ l = []:=by
      rcases List.eq_nil_or_concat l with h | ⟨l',x,h⟩
      · exact .inr h
      · exact .inl ⟨l',x,by simpa using h⟩
    · refine oq _ ?_
      simpa [List.getD] using h3
    · rfl
/- Lists without noughts at their end; no condition. -/
theorem pG {p : Int} (hp : Pm p) (x : Int) : fB.f p x = some (x % p):=by
  unfold fB.f
  rw [if_neg hp.ne,yK hp]

/-! ### noughts at the end -/
theorem xM (l : List Int) (x : Int) (m : List Int) : ((l ++ [x]) ++ m).getD l.length 0 = x:=by
  rw [List.append_assoc,List.getD_eq_getElem?_getD,List.getElem?_append_right (Nat.le_refl _),Nat.sub_self];rfl
theorem zT (l : List Int) : Sm l.length → Ev (fun k=>eP.l0 k l) (jr l):=by
  induction l using yL with
  | h0 =>
    intro _
    refine Ev.step (fun k=>by rw [eP.l0]) ?_
    exact Ev.neg (by simp) (Ev.now _)
  | h1 l x ih =>
    intro hl
    have hn : (l ++ [x]).length = l.length + 1:=by simp
    rw [hn] at hl
    unfold Sm at hl
    have e : wrap64 (((l ++ [x]).length : Int) - 1) = (l.length : Int):=by rw [hn,bQ (by omega) (by omega)];omega
    have er : rd (l ++ [x]) (l.length : Int) = x:=by
      rw [fw];have:=xM l x [];rwa [List.append_nil] at this
    refine Ev.step (fun k=>by rw [eP.l0]) ?_
    rw [e,er]
    refine Ev.pos (by omega) (Ev.pos (by omega) (Ev.pos (by omega) ?_))
    by_cases hx : x = 0
    · refine Ev.pos hx (Ev.pos (by omega) ?_)
      rw [eT,List.take_left,hx,mP]
      exact ih (by unfold Sm;omega)
    · refine Ev.neg hx (Ev.jO ?_)
      rw [oq l hx]
theorem uA (l : List Int) (hl : Sm l.length) : Ev (fun k=>eP.f k l) (jr l):=by
  unfold eP.f
  exact zT l hl
theorem zU (l : List Int) : ∀ m : List Int,Sm (l ++ m).length → Ev (fun k=>dU.l0 k (l ++ m) (l.length : Int)) (jr l):=by
  induction l using yL with
  | h0 =>
    intro m hl
    refine Ev.step (fun k=>by rw [dU.l0]) ?_
    refine Ev.neg (by simp) (Ev.pos (by simp) (Ev.pos (by simp) (Ev.dx (mZ _ (hl.take _)) (Ev.jO ?_))))
    simp [zM]
  | h1 l x ih =>
    intro m hl
    have hn : (l ++ [x]).length = l.length + 1:=by simp
    have hl':=hl
    rw [List.length_append,hn] at hl'
    have hm : (l ++ [x] ++ m).length = l.length + 1 + m.length:=by rw [List.length_append,hn]
    unfold Sm at hl'
    have e : wrap64 (((l ++ [x]).length : Int) - 1) = (l.length : Int):=by rw [hn,bQ (by omega) (by omega)];omega
    have er : rd ((l ++ [x]) ++ m) (l.length : Int) = x:=by
      rw [fw];exact xM l x m
    refine Ev.step (fun k=>by rw [dU.l0]) ?_
    rw [e,er]
    refine Ev.pos (by omega) (Ev.pos (by omega) (Ev.pos (by omega) ?_))
    by_cases hx : x = 0
    · refine Ev.pos hx ?_
      have:=ih ([x] ++ m) (by rw [← List.append_assoc];exact hl)
      rw [← List.append_assoc] at this
      rw [hx,mP]
      rw [hx] at this
      exact this
    · refine Ev.neg hx (Ev.pos (by omega) (Ev.pos (by omega) (Ev.dx (mZ _ (hl.take _)) (Ev.jO ?_))))
      rw [eT,List.take_left,oq l hx]
theorem nJ (l : List Int) (hl : Sm l.length) : Ev (fun k=>dU.f k l) (jr l):=by
  unfold dU.f
  have:=zU l [] (by rw [List.append_nil];exact hl)
  rwa [List.append_nil] at this
theorem wy (l : List Int) : (jr l).length ≤ l.length:=by
  obtain ⟨n,h⟩:=vY l
  have:=congrArg List.length h
  rw [List.length_append] at this
  omega
theorem Nm.jr {p : Int} {l : List Int} (h : Nm p l) : Nm p (jr l):=by
  obtain ⟨n,e⟩:=vY l
  intro x hx
  refine h x ?_
  rw [e]
  exact List.mem_append_left _ hx
/- Sums of polynomials modulo p: the program's side; no condition. -/
/-! ### sums -/
def oG (p k : Int) (g : List Int) : Nat → Nat → List Int → List Int
  | 0,_,o=>o
  | d + 1,i,o=>oG p k g d (i + 1) (o.set i ((o.getD i 0 + k * g.getD i 0) % p))
theorem xN (p k : Int) (g : List Int) (d : Nat) : ∀ i o,(oG p k g d i o).length = o.length:=by
  induction d with
  | zero=>intro i o;rfl
  | succ d ih=>intro i o;rw [oG,ih,List.length_set]
theorem Fw {p : Int} (hp : 0 < p) (k : Int) (g : List Int) (d : Nat) : ∀ i o,Nm p o → Nm p (oG p k g d i o):=by
  induction d with
  | zero=>intro i o h;exact h
  | succ d ih=>intro i o h;exact ih _ _ (h.set (iD hp _).1 (iD hp _).2 i)
/-- The list that the sum begins with. -/
def mX (f : List Int) (n : Nat) : List Int:=f ++ List.replicate (n - f.length) 0
theorem nu (f : List Int) {n : Nat} (h : f.length ≤ n) : (mX f n).length = n:=by
  rw [mX,List.length_append,List.length_replicate];omega
theorem Nm.mX {p : Int} (hp : 0 < p) {f : List Int} (h : Nm p f) (n : Nat) : Nm p (mX f n):=h.append (Nm.zeros hp _)
/-- f and k times g. -/
def nU (p : Int) (f g : List Int) (k : Int) : List Int:=jr (oG p k g g.length 0 (mX f (max f.length g.length)))
theorem qy (p : Int) (f g : List Int) (k : Int) : (nU p f g k).length ≤ max f.length g.length:=by
  have:=wy (oG p k g g.length 0 (mX f (max f.length g.length)))
  rw [xN,nu f (by omega)] at this
  exact this
theorem qP {p : Int} (hp : 0 < p) {f g : List Int} (hf : Nm p f) (k : Int) : Nm p (nU p f g k):=(Fw hp k g _ _ _ (hf.mX hp _)).jr
theorem Fx (a b : Nat) : mx (a : Int) (b : Int) = ((max a b : Nat) : Int):=by
  unfold mx;split <;> omega
theorem Fy {p k : Int} (hp : Pm p) (hk : 0 ≤ k∧k < p) (g : List Int) (hg : Nm p g) (d : Nat) : ∀ (i : Nat) (o : List Int),i + d = g.length → g.length ≤ o.length → Nm p o → Sm o.length →
    Ev (fun n=>dC.l0 n p k o g (g.length : Int) (i : Int)) (jr (oG p k g d i o)):=by
  induction d with
  | zero =>
    intro i o hi hl ho hs
    refine Ev.step (fun n=>by rw [dC.l0]) ?_
    exact Ev.neg (by omega) (Ev.bind (uA o hs) (Ev.now _))
  | succ d ih =>
    intro i o hi hl ho hs
    have h1:=ho.get (i:=i) (by omega)
    have h2:=hg.get (i:=i) (by omega)
    have h3:=rz hp hk.1 hk.2 h2.1 h2.2
    have ht:=hp.top
    have hm:=iD hp.pos (o.getD i 0 + k * g.getD i 0)
    have hs':=hs
    unfold Sm at hs'
    refine Ev.step (fun n=>by rw [dC.l0]) ?_
    refine Ev.pos (by omega) (Ev.pos (by omega) (Ev.pos (by omega) (Ev.pos (by omega) ?_)))
    rw [fw,fw,bQ (x:=k * g.getD i 0) (by omega) (by omega),bQ (by omega) (by omega)]
    refine Ev.dx (mQ hp _) ?_
    rw [lT (i:=i) (n:=g.length) (by omega) (by omega),eT]
    exact ih (i + 1) _ (by omega) (by rw [List.length_set];omega) (ho.set hm.1 hm.2 i) (by rw [List.length_set];exact hs)
theorem DU (f : List Int) {n : Nat} (h : f.length ≤ n) : cpy (List.replicate n 0) f = mX f n:=by
  unfold cpy mX
  rw [List.length_replicate,Nat.min_eq_left h,List.take_length,List.drop_replicate]
theorem ny {p k : Int} (hp : Pm p) (hk : 0 ≤ k∧k < p) (f g : List Int) (hf : Nm p f) (hg : Nm p g) (sf : Sm f.length) (sg : Sm g.length) :
    Ev (fun n=>dC.f n p f g k) (nU p f g k):=by
  unfold dC.f
  unfold Sm at sf sg
  rw [Fx,eT,DU f (by omega)]
  refine Ev.pos (by omega) (Ev.pos (by omega) ?_)
  exact Fy hp hk g hg g.length 0 _ (by omega) (by rw [nu f (by omega)];omega) (hf.mX hp.pos _) (by rw [nu f (by omega)];unfold Sm;omega)
/- Sums of polynomials modulo p; no condition. -/
theorem Fz {p k : Int} (hp : Pm p) (hk : 0 ≤ k∧k < p) (g : List Int) (hg : Nm p g) (d : Nat) : ∀ (i : Nat) (o : List Int),i + d = g.length → g.length ≤ o.length → Nm p o → Sm o.length →
    Ev (fun n=>cu.l1 n p g k o (i : Int)) (jr (oG p k g d i o)):=by
  induction d with
  | zero =>
    intro i o hi hl ho hs
    refine Ev.step (fun n=>by rw [cu.l1]) ?_
    exact Ev.neg (by omega) (Ev.bind (nJ o hs) (Ev.now _))
  | succ d ih =>
    intro i o hi hl ho hs
    have h1:=ho.get (i:=i) (by omega)
    have h2:=hg.get (i:=i) (by omega)
    have h3:=rz hp hk.1 hk.2 h2.1 h2.2
    have ht:=hp.top
    have hm:=iD hp.pos (o.getD i 0 + k * g.getD i 0)
    have hs':=hs
    unfold Sm at hs'
    refine Ev.step (fun n=>by rw [cu.l1]) ?_
    refine Ev.pos (by omega) (Ev.pos (by omega) (Ev.pos (by omega) ?_))
    rw [fw,fw,bQ (x:=k * g.getD i 0) (by omega) (by omega),bQ (by omega) (by omega)]
    refine Ev.dx (pG hp _) ?_
    rw [lT (i:=i) (n:=g.length) (by omega) (by omega),eT]
    exact ih (i + 1) _ (by omega) (by rw [List.length_set];omega) (ho.set hm.1 hm.2 i) (by rw [List.length_set];exact hs)
theorem FB {p k : Int} (f g : List Int) (n : Nat) (r : List Int) (hn : f.length ≤ n) (hs : Sm n) (e : Ev (fun m=>cu.l1 m p g k (mX f n) 0) r) (d : Nat) : ∀ i,i + d = f.length →
    Ev (fun m=>cu.l0 m p f g k (f.take i ++ List.replicate (n - i) 0) (i : Int)) r:=by
  induction d with
  | zero =>
    intro i hi
    refine Ev.step (fun m=>by rw [cu.l0]) ?_
    refine Ev.neg (by omega) ?_
    rw [show i = f.length from by omega,List.take_length]
    exact e
  | succ d ih =>
    intro i hi
    unfold Sm at hs
    have hl : (f.take i ++ List.replicate (n - i) (0 : Int)).length = n:=by rw [List.length_append,List.length_take,List.length_replicate];omega
    refine Ev.step (fun m=>by rw [cu.l0]) ?_
    refine Ev.pos (by omega) (Ev.pos (by omega) (Ev.pos (by omega) ?_))
    rw [fw,eT,lT (i:=i) (n:=n) (by omega) (by omega)]
    have e2 : (f.take i ++ List.replicate (n - i) (0 : Int)).set i (f.getD i 0) = f.take (i + 1) ++ List.replicate (n - (i + 1)) 0:=by
      rw [List.set_append_right (h:=by rw [List.length_take];omega),List.length_take,show i - min i f.length = 0 from by omega,show n - i = (n - (i + 1)) + 1 from by omega,List.replicate_succ,List.set_cons_zero,List.take_add_one,List.append_assoc,List.getElem?_eq_getElem (by omega),List.getD_eq_getElem?_getD,List.getElem?_eq_getElem (by omega)]
      rfl
    rw [e2]
    exact ih (i + 1) (by omega)
theorem wz {p k : Int} (hp : Pm p) (hk : 0 ≤ k∧k < p) (f g : List Int) (hf : Nm p f) (hg : Nm p g) (sf : Sm f.length) (sg : Sm g.length) :
    Ev (fun n=>cu.f n p f g k) (nU p f g k):=by
  unfold cu.f
  unfold Sm at sf sg
  rw [Fx,eT]
  refine Ev.pos (by omega) (Ev.pos (by omega) ?_)
  have h1:=Fz hp hk g hg g.length 0 (mX f (max f.length g.length)) (by omega) (by rw [nu f (by omega)];omega) (hf.mX hp.pos _) (by rw [nu f (by omega)];unfold Sm;omega)
  have h2:=FB f g (max f.length g.length) _ (by omega) (by unfold Sm;omega) h1 f.length 0 (by omega)
  rw [List.take_zero,List.nil_append,Nat.sub_zero] at h2
  exact h2
/- Products of polynomials modulo p; no condition. -/
/-! ### products -/
def jN (p c : Int) (g : List Int) (i : Nat) : Nat → Nat → List Int → List Int
  | 0,_,o=>o
  | d + 1,j,o=>jN p c g i d (j + 1) (o.set (i + j) ((o.getD (i + j) 0 + c * g.getD j 0) % p))
theorem ku (p c : Int) (g : List Int) (i d : Nat) : ∀ j o,(jN p c g i d j o).length = o.length:=by
  induction d with
  | zero=>intro j o;rfl
  | succ d ih=>intro j o;rw [jN,ih,List.length_set]
theorem oC {p : Int} (hp : 0 < p) (c : Int) (g : List Int) (i d : Nat) : ∀ j o,Nm p o → Nm p (jN p c g i d j o):=by
  induction d with
  | zero=>intro j o h;exact h
  | succ d ih=>intro j o h;exact ih _ _ (h.set (iD hp _).1 (iD hp _).2 _)
def mF (p : Int) (f g : List Int) : Nat → Nat → List Int → List Int
  | 0,_,o=>o
  | d + 1,i,o=>mF p f g d (i + 1) (jN p (f.getD i 0) g i g.length 0 o)
theorem BO (p : Int) (f g : List Int) (d : Nat) : ∀ i o,(mF p f g d i o).length = o.length:=by
  induction d with
  | zero=>intro i o;rfl
  | succ d ih=>intro i o;rw [mF,ih,ku]
theorem DV {p : Int} (hp : 0 < p) (f g : List Int) (d : Nat) : ∀ i o,Nm p o → Nm p (mF p f g d i o):=by
  induction d with
  | zero=>intro i o h;exact h
  | succ d ih=>intro i o h;exact ih _ _ (oC hp _ _ _ _ _ _ h)
/-- f times g. -/
def kV (p : Int) (f g : List Int) : List Int:=if f.length = 0 ∨ g.length = 0 then [] else jr (mF p f g f.length 0 (List.replicate (f.length + g.length - 1) 0))
theorem qI (p : Int) (f g : List Int) : (kV p f g).length ≤ f.length + g.length - 1:=by
  unfold kV
  split
  · simp
  · have:=wy (mF p f g f.length 0 (List.replicate (f.length + g.length - 1) 0))
    rw [BO,List.length_replicate] at this
    exact this
theorem qN {p : Int} (hp : 0 < p) (f g : List Int) : Nm p (kV p f g):=by
  unfold kV
  split
  · exact Nm.nil p
  · exact (DV hp _ _ _ _ _ (Nm.zeros hp _)).jr
theorem FC {p : Int} (hp : Pm p) (f g : List Int) (hg : Nm p g) (c : Int) (hc : 0 ≤ c∧c < p) (i : Nat) (r : List Int) (d : Nat) : ∀ (j : Nat) (o : List Int),j + d = g.length → i + g.length ≤ o.length → Nm p o → Sm o.length →
    Ev (fun n=>aV.l0 n p g (jN p c g i d j o) f (f.length : Int) (wrap64 ((i : Int) + 1))) r →
    Ev (fun n=>aV.l1 n p g o (i : Int) c f (f.length : Int) (i : Int) g (g.length : Int) (j : Int)) r:=by
  induction d with
  | zero =>
    intro j o hj hl ho hs e
    refine Ev.step (fun n=>by rw [aV.l1]) ?_
    exact Ev.neg (by omega) e
  | succ d ih =>
    intro j o hj hl ho hs e
    have h1:=ho.get (i:=i + j) (by omega)
    have h2:=hg.get (i:=j) (by omega)
    have h3:=rz hp hc.1 hc.2 h2.1 h2.2
    have ht:=hp.top
    have hm:=iD hp.pos (o.getD (i + j) 0 + c * g.getD j 0)
    have hs':=hs
    unfold Sm at hs'
    have hw : wrap64 ((i : Int) + (j : Int)) = ((i + j : Nat) : Int):=Jr (n:=o.length) (by omega) (by omega)
    refine Ev.step (fun n=>by rw [aV.l1]) ?_
    rw [hw]
    have c1 : (j : Int) < (g.length : Int):=by clear h1 h2 h3 hm hw e;omega
    have c2 : (0 : Int) ≤ (j : Int):=by clear h1 h2 h3 hm hw e;omega
    have c3 : (0 : Int) ≤ ((i + j : Nat) : Int):=by clear h1 h2 h3 hm hw e;omega
    have c4 : ((i + j : Nat) : Int) < (o.length : Int):=by clear h1 h2 h3 hm hw e;omega
    refine Ev.pos c1 (Ev.pos c2 (Ev.pos c1 (Ev.pos c3 (Ev.pos c4 ?_))))
    rw [fw,fw,bQ (x:=c * g.getD j 0) (by omega) (by omega),bQ (by omega) (by omega)]
    refine Ev.dx (mQ hp _) ?_
    rw [lT (i:=j) (n:=g.length) (by clear h1 h2 h3 hm hw e;omega) (by clear h1 h2 h3 hm hw e;omega),eT]
    exact ih (j + 1) _ (by clear h1 h2 h3 hm hw e;omega) (by rw [List.length_set];clear h1 h2 h3 hm hw e;omega) (ho.set hm.1 hm.2 _) (by rw [List.length_set];exact hs) e
theorem FD {p : Int} (hp : Pm p) (f g : List Int) (hf : Nm p f) (hg : Nm p g) (d : Nat) : ∀ (i : Nat) (o : List Int),i + d = f.length → f.length + g.length ≤ o.length + 1 → Nm p o → Sm o.length →
    Ev (fun n=>aV.l0 n p g o f (f.length : Int) (i : Int)) (jr (mF p f g d i o)):=by
  induction d with
  | zero =>
    intro i o hi hl ho hs
    refine Ev.step (fun n=>by rw [aV.l0]) ?_
    exact Ev.neg (by omega) (Ev.bind (uA o hs) (Ev.now _))
  | succ d ih =>
    intro i o hi hl ho hs
    have hs':=hs
    unfold Sm at hs'
    refine Ev.step (fun n=>by rw [aV.l0]) ?_
    refine Ev.pos (by omega) (Ev.pos (by omega) (Ev.pos (by omega) ?_))
    rw [fw]
    refine FC hp f g hg _ (hf.get (i:=i) (by omega)) i _ g.length 0 o (by omega) (by omega) ho hs ?_
    by_cases hg0 : f.length ≤ 4611686018427387903
    · rw [lT (i:=i) (n:=f.length) (by omega) (by omega)]
      exact ih (i + 1) _ (by omega) (by rw [ku];exact hl) (oC hp.pos _ _ _ _ _ _ ho) (by rw [ku];exact hs)
    · omega
theorem rV {p : Int} (hp : Pm p) (f g : List Int) (hf : Nm p f) (hg : Nm p g) (sf : Sm f.length) (sg : Sm g.length) (sfg : Sm (f.length + g.length)) :
    Ev (fun n=>aV.f n p f g) (kV p f g):=by
  unfold aV.f kV
  unfold Sm at sf sg sfg
  by_cases h1 : f.length = 0
  · rw [if_pos (Or.inl h1)]
    refine Ev.pos (by omega) ?_
    refine Ev.step (fun n=>by rw [aV.j0]) ?_
    exact Ev.pos rfl (Ev.now _)
  · refine Ev.neg (by omega) ?_
    by_cases h2 : g.length = 0
    · rw [if_pos (Or.inr h2),show ((g.length : Int) == 0) = true from by simp [h2]]
      refine Ev.step (fun n=>by rw [aV.j0]) ?_
      exact Ev.pos rfl (Ev.now _)
    · rw [if_neg (by omega),show ((g.length : Int) == 0) = false from by simp;exact fun h=>h2 (by simp [h])]
      refine Ev.step (fun n=>by rw [aV.j0]) ?_
      have e : wrap64 (wrap64 ((f.length : Int) + (g.length : Int)) - 1) = ((f.length + g.length - 1 : Nat) : Int):=by
        rw [bQ (x:=(f.length : Int) + (g.length : Int)) (by omega) (by omega),bQ (by omega) (by omega)];omega
      rw [e,eT]
      refine Ev.neg (by decide) (Ev.pos (by omega) (Ev.pos (by omega) ?_))
      exact FD hp f g hf hg f.length 0 _ (by omega) (by rw [List.length_replicate];omega) (Nm.zeros hp.pos _) (by rw [List.length_replicate];unfold Sm;omega)
theorem FE {p : Int} (hp : Pm p) (f g : List Int) (hf : Nm p f) (hg : Nm p g) (i : Nat) (hi : i < f.length) (r : List Int) (d : Nat) : ∀ (j : Nat) (o : List Int),j + d = g.length → i + g.length ≤ o.length → Nm p o → Sm o.length →
    Ev (fun n=>bA.l0 n p f g (jN p (f.getD i 0) g i d j o) (wrap64 ((i : Int) + 1))) r →
    Ev (fun n=>bA.l1 n p f g o (i : Int) (j : Int)) r:=by
  induction d with
  | zero =>
    intro j o hj hl ho hs e
    refine Ev.step (fun n=>by rw [bA.l1]) ?_
    exact Ev.neg (by omega) e
  | succ d ih =>
    intro j o hj hl ho hs e
    have hc:=hf.get (i:=i) hi
    have h1:=ho.get (i:=i + j) (by omega)
    have h2:=hg.get (i:=j) (by omega)
    have h3:=rz hp hc.1 hc.2 h2.1 h2.2
    have ht:=hp.top
    have hm:=iD hp.pos (o.getD (i + j) 0 + f.getD i 0 * g.getD j 0)
    have hs':=hs
    unfold Sm at hs'
    have hw : wrap64 ((i : Int) + (j : Int)) = ((i + j : Nat) : Int):=Jr (n:=o.length) (by omega) (by omega)
    refine Ev.step (fun n=>by rw [bA.l1]) ?_
    rw [hw]
    have c1 : (j : Int) < (g.length : Int):=by clear h1 h2 h3 hm hw e;omega
    have c2 : (0 : Int) ≤ (j : Int):=by clear h1 h2 h3 hm hw e;omega
    have c3 : (0 : Int) ≤ ((i + j : Nat) : Int):=by clear h1 h2 h3 hm hw e;omega
    have c4 : ((i + j : Nat) : Int) < (o.length : Int):=by clear h1 h2 h3 hm hw e;omega
    have c5 : (0 : Int) ≤ (i : Int):=by clear h1 h2 h3 hm hw e;omega
    have c6 : (i : Int) < (f.length : Int):=by clear h1 h2 h3 hm hw e;omega
    refine Ev.pos c1 (Ev.pos c3 (Ev.pos c4 (Ev.pos c5 (Ev.pos c6 (Ev.pos c2 (Ev.neg hp.ne ?_))))))
    rw [fw,fw,fw,bQ (x:=f.getD i 0 * g.getD j 0) (by omega) (by omega),bQ (by omega) (by omega),iG (by omega),lT (i:=j) (n:=g.length) (by clear h1 h2 h3 hm hw e;omega) (by clear h1 h2 h3 hm hw e;omega),eT]
    exact ih (j + 1) _ (by clear h1 h2 h3 hm hw e;omega) (by rw [List.length_set];clear h1 h2 h3 hm hw e;omega) (ho.set hm.1 hm.2 _) (by rw [List.length_set];exact hs) e
theorem FH {p : Int} (hp : Pm p) (f g : List Int) (hf : Nm p f) (hg : Nm p g) (d : Nat) : ∀ (i : Nat) (o : List Int),i + d = f.length → f.length + g.length ≤ o.length + 1 → Nm p o → Sm o.length →
    Ev (fun n=>bA.l0 n p f g o (i : Int)) (jr (mF p f g d i o)):=by
  induction d with
  | zero =>
    intro i o hi hl ho hs
    refine Ev.step (fun n=>by rw [bA.l0]) ?_
    exact Ev.neg (by omega) (Ev.bind (nJ o hs) (Ev.now _))
  | succ d ih =>
    intro i o hi hl ho hs
    have hs':=hs
    unfold Sm at hs'
    refine Ev.step (fun n=>by rw [bA.l0]) ?_
    refine Ev.pos (by omega) ?_
    refine FE hp f g hf hg i (by omega) _ g.length 0 o (by omega) (by omega) ho hs ?_
    by_cases hg0 : f.length ≤ 4611686018427387903
    · rw [lT (i:=i) (n:=f.length) (by omega) (by omega)]
      exact ih (i + 1) _ (by omega) (by rw [ku];exact hl) (oC hp.pos _ _ _ _ _ _ ho) (by rw [ku];exact hs)
    · omega
theorem BP {p : Int} (hp : Pm p) (f g : List Int) (hf : Nm p f) (hg : Nm p g) (sf : Sm f.length) (sg : Sm g.length) (sfg : Sm (f.length + g.length)) :
    Ev (fun n=>bA.f n p f g) (kV p f g):=by
  unfold bA.f kV
  unfold Sm at sf sg sfg
  by_cases h1 : f.length = 0
  · rw [if_pos (Or.inl h1)]
    refine Ev.pos (by omega) ?_
    refine Ev.step (fun n=>by rw [bA.j0]) ?_
    exact Ev.pos rfl (Ev.now _)
  · refine Ev.neg (by omega) ?_
    by_cases h2 : g.length = 0
    · rw [if_pos (Or.inr h2),show ((g.length : Int) == 0) = true from by simp [h2]]
      refine Ev.step (fun n=>by rw [bA.j0]) ?_
      exact Ev.pos rfl (Ev.now _)
    · rw [if_neg (by omega),show ((g.length : Int) == 0) = false from by simp;exact fun h=>h2 (by simp [h])]
      refine Ev.step (fun n=>by rw [bA.j0]) ?_
      have e : wrap64 (wrap64 ((f.length : Int) + (g.length : Int)) - 1) = ((f.length + g.length - 1 : Nat) : Int):=by
        rw [bQ (x:=(f.length : Int) + (g.length : Int)) (by omega) (by omega),bQ (by omega) (by omega)];omega
      rw [e,eT]
      refine Ev.neg (by decide) (Ev.pos (by omega) (Ev.pos (by omega) ?_))
      exact FH hp f g hf hg f.length 0 _ (by omega) (by rw [List.length_replicate];omega) (Nm.zeros hp.pos _) (by rw [List.length_replicate];unfold Sm;omega)
/- One step of a recurrence: (x - a) f - b g, and the program's function for it; no condition. -/
/-- (x - a) f - b g. -/
def mG (p a b : Int) (f g : List Int) : List Int:=nU p (kV p [(-a) % p,1] f) g ((-b) % p)
theorem qz {p : Int} (hp : Pm p) (a b : Int) (f g : List Int) : Nm p (mG p a b f g):=qP hp.pos (qN hp.pos _ _) _
theorem DW (p a b : Int) (f g : List Int) : (mG p a b f g).length ≤ max (f.length + 1) g.length:=by
  have h1:=qy p (kV p [(-a) % p,1] f) g ((-b) % p)
  have h2:=qI p [(-a) % p,1] f
  simp only [List.length_cons,List.length_nil] at h2
  unfold mG
  omega
theorem FI {p : Int} (hp : Pm p) (a : Int) : Nm p [(-a) % p,1]:=by
  have:=hp.two
  exact Nm.cons (iD hp.pos _).1 (iD hp.pos _).2 (Nm.cons (by omega) (by omega) (Nm.nil p))
theorem sM {p a : Int} (hp : Pm p) (h : 0 ≤ a∧a < p) : wrap64 (-a) = -a:=by
  have:=hp.top
  exact bQ (by omega) (by omega)
theorem zV {p a b : Int} (hp : Pm p) (ha : 0 ≤ a∧a < p) (hb : 0 ≤ b∧b < p) (f g : List Int) (hf : Nm p f) (hg : Nm p g) (sf : f.length ≤ 1000) (sg : g.length ≤ 1000) :
    Ev (fun n=>iX.f n p a b f g) (mG p a b f g):=by
  unfold iX.f
  have h2:=qI p [(-a) % p,1] f
  simp only [List.length_cons,List.length_nil] at h2
  rw [sM hp ha,sM hp hb]
  refine Ev.dx (mQ hp _) (Ev.bind (rV hp _ f (FI hp a) hf (by simp [Sm]) (by unfold Sm;omega) (by simp only [List.length_cons,List.length_nil];unfold Sm;omega)) (Ev.dx (mQ hp _) (Ev.bind ?_ (Ev.now _))))
  exact ny hp (iD hp.pos _) _ g (qN hp.pos _ _) hg (by unfold Sm;omega) (by unfold Sm;omega)
theorem JF {p : Int} (hp : Pm p) : Nm p [1]:=by
  have:=hp.two
  exact Nm.cons (by omega) (by omega) (Nm.nil p)
/- The polynomials of data of recurrences, and the associated ones, as plain lists. Conditions: p in range. -/
/-- P(k - 1) and P(k). -/
def dH (p : Int) (a b : List Int) : Nat → List Int × List Int
  | 0=>([],[1])
  | k + 1=>((dH p a b k).2,mG p (a.getD k 0) (b.getD k 0) (dH p a b k).2 (dH p a b k).1)
theorem jG {p : Int} (hp : Pm p) (a b : List Int) (k : Nat) : (Nm p (dH p a b k).1∧Nm p (dH p a b k).2)∧((dH p a b k).1.length ≤ k + 1∧(dH p a b k).2.length ≤ k + 1):=by
  induction k with
  | zero=>exact ⟨⟨Nm.nil p,JF hp⟩,by simp [dH],by simp [dH]⟩
  | succ k ih =>
    refine ⟨⟨ih.1.2,qz hp _ _ _ _⟩,by have:=ih.2.2;simp only [dH];omega,?_⟩
    have:=DW p (a.getD k 0) (b.getD k 0) (dH p a b k).2 (dH p a b k).1
    have h:=ih.2
    simp only [dH]
    omega
/- The polynomials of data of recurrences: what the program and the reference come to; no condition. -/
theorem zW {p a b : Int} (hp : Pm p) (ha : 0 ≤ a∧a < p) (hb : 0 ≤ b∧b < p) (f g : List Int) (hf : Nm p f) (hg : Nm p g) (sf : f.length ≤ 1000) (sg : g.length ≤ 1000) :
    Ev (fun n=>kC.f n p f g a b) (mG p a b f g):=by
  unfold kC.f
  have h2:=qI p [(-a) % p,1] f
  simp only [List.length_cons,List.length_nil] at h2
  rw [sM hp ha,sM hp hb]
  refine Ev.dx (pG hp _) (Ev.bind (BP hp _ f (FI hp a) hf (by simp [Sm]) (by unfold Sm;omega) (by simp only [List.length_cons,List.length_nil];unfold Sm;omega)) (Ev.dx (pG hp _) (Ev.bind ?_ (Ev.now _))))
  exact wz hp (iD hp.pos _) _ g (qN hp.pos _ _) hg (by unfold Sm;omega) (by unfold Sm;omega)
theorem xu {p : Int} (hp : Pm p) (a b : List Int) (ha : Nm p a) (hb : Nm p b) (n : Nat) (hn : n ≤ a.length) (hl : a.length ≤ 12) (hab : b.length = a.length) (d : Nat) : ∀ i,i + d = n →
    Ev (fun m=>bU.l0 m (n : Int) (dH p a b i).1 (dH p a b i).2 (i : Int) p a b) (dH p a b n).2:=by
  induction d with
  | zero =>
    intro i hi
    refine Ev.step (fun m=>by rw [bU.l0]) ?_
    refine Ev.neg (by omega) (Ev.jO ?_)
    rw [show i = n from by omega]
  | succ d ih =>
    intro i hi
    have h:=jG hp a b i
    refine Ev.step (fun m=>by rw [bU.l0]) ?_
    refine Ev.pos (by omega) (Ev.pos (by omega) (Ev.pos (by omega) (Ev.pos (by omega) ?_)))
    rw [fw,fw]
    refine Ev.bind (zW hp (ha.get (i:=i) (by omega)) (hb.get (i:=i) (by omega)) _ _ h.1.2 h.1.1 (by omega) (by omega)) ?_
    rw [lT (i:=i) (n:=n) (by omega) (by omega)]
    exact ih (i + 1) (by omega)
theorem rM {p : Int} (hp : Pm p) (a b : List Int) (ha : Nm p a) (hb : Nm p b) (n : Nat) (hn : n ≤ a.length) (hl : a.length ≤ 12) (hab : b.length = a.length) :
    Ev (fun m=>bU.f m p a b (n : Int)) (dH p a b n).2:=by
  unfold bU.f
  exact xu hp a b ha hb n hn hl hab n 0 (by omega)
theorem qJ {α : Type} (g : Nat → α) (d : α) {n i : Nat} (h : i < n) : ((List.range n).map g).getD i d = g i:=by
  rw [List.getD_eq_getElem?_getD,List.getElem?_map,List.getElem?_range h];rfl
theorem wB {α : Type} (g : Nat → α) (n : Nat) : (List.range (n + 1)).map g = (List.range n).map g ++ [g n]:=by
  rw [List.range_succ,List.map_append];rfl
/-- All polynomials P(0) to P(n - 1). -/
def wC (p : Int) (a b : List Int) (n : Nat) : List (List Int):=(List.range n).map fun k=>(dH p a b k).2
theorem yQ {p : Int} (hp : Pm p) (a b : List Int) (ha : Nm p a) (hb : Nm p b) (hl : a.length ≤ 12) (hab : b.length = a.length) (d : Nat) : ∀ i,i + d = a.length →
    Ev (fun m=>bH.l0 m (wC p a b (i + 1)) (dH p a b i).1 a (a.length : Int) (i : Int) p a b) (wC p a b (a.length + 1)):=by
  induction d with
  | zero =>
    intro i hi
    refine Ev.step (fun m=>by rw [bH.l0]) ?_
    refine Ev.neg (by omega) (Ev.jO ?_)
    rw [show i = a.length from by omega]
  | succ d ih =>
    intro i hi
    have h:=jG hp a b i
    have hn : (wC p a b (i + 1)).length = i + 1:=by simp [wC]
    have hr : jS (wC p a b (i + 1)) (i : Int) = (dH p a b i).2:=by
      rw [yJ];exact qJ _ _ (by omega)
    refine Ev.step (fun m=>by rw [bH.l0]) ?_
    rw [hr]
    refine Ev.pos (by omega) (Ev.pos (by omega) (Ev.pos (by omega) (Ev.pos (by omega) (Ev.dx (a:=p) rfl (Ev.pos (by omega) ?_)))))
    rw [fw,fw]
    refine Ev.bind (zV hp (ha.get (i:=i) (by omega)) (hb.get (i:=i) (by omega)) _ _ h.1.2 h.1.1 (by omega) (by omega)) (Ev.pos (by omega) ?_)
    rw [lT (i:=i) (n:=a.length) (by omega) (by omega)]
    have:=ih (i + 1) (by omega)
    rw [show wC p a b (i + 1 + 1) = wC p a b (i + 1) ++ [(dH p a b (i + 1)).2] from wB _ _] at this
    exact this
theorem sw {p : Int} (hp : Pm p) (a b : List Int) (ha : Nm p a) (hb : Nm p b) (hl : a.length ≤ 12) (hab : b.length = a.length) :
    Ev (fun m=>bH.f m p a b) (wC p a b (a.length + 1)):=by
  unfold bH.f
  exact yQ hp a b ha hb hl hab a.length 0 (by omega)
/- Reading the lists of all polynomials of data; no condition. -/
theorem CR (p : Int) (a b : List Int) {n i : Nat} (h : i < n) : jS (wC p a b n) (i : Int) = (dH p a b i).2:=by
  rw [yJ];exact qJ _ _ h
theorem zF (p : Int) (a b : List Int) (n : Nat) : (wC p a b n).length = n:=by simp [wC]
theorem EP {p : Int} {a b : List Int} {r : Bool} {c : Int} (h : oW p a b r = c) (ha : Sm a.length) (hb : Sm b.length) : Ev (fun n=>bR.f n p a b r) c:=by
  subst h;exact kK p a b r ha hb
/- Lists that begin a recurrence's step: monic stays monic; no condition. -/
theorem getD_set_ne {l : List Int} {i j : Nat} {x : Int} (h : i ≠ j) : (l.set i x).getD j 0 = l.getD j 0:=by
  rw [List.getD_eq_getElem?_getD,List.getElem?_set_ne h,List.getD_eq_getElem?_getD]
theorem iL {l : List Int} {i : Nat} {x : Int} (h : i < l.length) : (l.set i x).getD i 0 = x:=by
  rw [List.getD_eq_getElem?_getD,List.getElem?_set_self h];rfl
theorem BQ (p c : Int) (g : List Int) (i d : Nat) : ∀ (j : Nat) (o : List Int),i + j + d < o.length →
    (jN p c g i (d + 1) j o).getD (i + j + d) 0 = (o.getD (i + j + d) 0 + c * g.getD (j + d) 0) % p:=by
  induction d with
  | zero =>
    intro j o h
    rw [jN,jN,Nat.add_zero,Nat.add_zero,iL (by omega)]
  | succ d ih =>
    intro j o h
    have:=ih (j + 1) (o.set (i + j) ((o.getD (i + j) 0 + c * g.getD j 0) % p)) (by rw [List.length_set];omega)
    rw [jN,show i + j + (d + 1) = i + (j + 1) + d from by omega,this,getD_set_ne (by omega),show j + 1 + d = j + (d + 1) from by omega]
theorem DX (p c : Int) (g : List Int) (i d : Nat) : ∀ (j t : Nat) (o : List Int),i + j + d ≤ t → (jN p c g i d j o).getD t 0 = o.getD t 0:=by
  induction d with
  | zero=>intro j t o h;rfl
  | succ d ih=>intro j t o h;rw [jN,ih (j + 1) t _ (by omega),getD_set_ne (by omega)]
theorem DY (p k : Int) (g : List Int) (d : Nat) : ∀ (i t : Nat) (o : List Int),i + d ≤ t → (oG p k g d i o).getD t 0 = o.getD t 0:=by
  induction d with
  | zero=>intro i t o h;rfl
  | succ d ih=>intro i t o h;rw [oG,ih (i + 1) t _ (by omega),getD_set_ne (by omega)]
theorem uS {l : List Int} {n : Nat} (hl : l.length = n + 1) (h : l.getD n 0 ≠ 0) : jr l = l:=by
  have hne : l ≠ []:=by intro e;rw [e] at hl;simp at hl
  have e:=List.dropLast_concat_getLast hne
  have hlast : l.getLast hne = l.getD n 0:=by
    rw [List.getLast_eq_getElem,List.getD_eq_getElem?_getD,List.getElem?_eq_getElem (by omega)]
    simp [hl]
  rw [← e,oq _ (by rw [hlast];exact h)]
/-- Monic of degree k. -/
def Mon (f : List Int) (k : Nat) : Prop:=f.length = k + 1∧f.getD k 0 = 1
theorem tN {p : Int} (hp : Pm p) (a b : Int) (f g : List Int) (k : Nat) (hf : Mon f k) (hg : g.length ≤ k + 1) : Mon (mG p a b f g) (k + 1):=by
  have h2:=hp.two
  have e1 : (1 : Int) % p = 1:=Int.emod_eq_of_lt (by omega) (by omega)
  have hz : (List.replicate (2 + (k + 1) - 1) (0 : Int)).length = k + 2:=by rw [List.length_replicate];omega
  have ho : (jN p ((-a) % p) f 0 (k + 1) 0 (List.replicate (2 + (k + 1) - 1) 0)).length = k + 2:=by rw [ku];exact hz
  have hz0 : (List.replicate (2 + (k + 1) - 1) (0 : Int)).getD (k + 1) 0 = 0:=by
    rw [List.getD_eq_getElem?_getD,List.getElem?_replicate];split <;> rfl
  have hm : kV p [(-a) % p,1] f = jN p 1 f 1 (k + 1) 0 (jN p ((-a) % p) f 0 (k + 1) 0 (List.replicate (2 + (k + 1) - 1) 0)) ∧
      (kV p [(-a) % p,1] f).length = k + 2∧(kV p [(-a) % p,1] f).getD (k + 1) 0 = 1:=by
    have hl : (jN p 1 f 1 (k + 1) 0 (jN p ((-a) % p) f 0 (k + 1) 0 (List.replicate (2 + (k + 1) - 1) 0))).length = k + 2:=by rw [ku];exact ho
    have ht : (jN p 1 f 1 (k + 1) 0 (jN p ((-a) % p) f 0 (k + 1) 0 (List.replicate (2 + (k + 1) - 1) 0))).getD (k + 1) 0 = 1:=by
      have:=BQ p 1 f 1 k 0 (jN p ((-a) % p) f 0 (k + 1) 0 (List.replicate (2 + (k + 1) - 1) 0)) (by rw [ho];omega)
      rw [show 1 + 0 + k = k + 1 from by omega,DX p _ f 0 (k + 1) 0 (k + 1) _ (by omega),hz0,Nat.zero_add,hf.2,Int.one_mul,Int.zero_add,e1] at this
      exact this
    have he : kV p [(-a) % p,1] f = jN p 1 f 1 (k + 1) 0 (jN p ((-a) % p) f 0 (k + 1) 0 (List.replicate (2 + (k + 1) - 1) 0)):=by
      unfold kV
      rw [if_neg (by rw [hf.1];simp),hf.1]
      show jr (mF p [(-a) % p,1] f 2 0 (List.replicate (2 + (k + 1) - 1) 0)) = _
      rw [mF,mF,mF,hf.1]
      have hq:=uS hl (by rw [ht];decide)
      exact hq
    rw [he]
    exact ⟨rfl,hl,ht⟩
  have hmx : max (kV p [(-a) % p,1] f).length g.length = k + 2:=by rw [hm.2.1];omega
  have hl2 : (oG p ((-b) % p) g g.length 0 (mX (kV p [(-a) % p,1] f) (k + 2))).length = k + 2:=by rw [xN,nu _ (by rw [hm.2.1];omega)]
  have ht2 : (oG p ((-b) % p) g g.length 0 (mX (kV p [(-a) % p,1] f) (k + 2))).getD (k + 1) 0 = 1:=by
    rw [DY _ _ _ _ _ _ _ (by omega),mX,hm.2.1,Nat.sub_self,List.replicate_zero,List.append_nil,hm.2.2]
  unfold mG nU
  rw [hmx,uS hl2 (by rw [ht2];decide)]
  exact ⟨hl2,ht2⟩
/- The polynomials of data are monic of their degree; no condition. -/
theorem o9 {p : Int} (hp : Pm p) (a b : List Int) (k : Nat) : Mon (dH p a b k).2 k:=by
  induction k with
  | zero=>exact ⟨rfl,rfl⟩
  | succ k ih=>exact tN hp _ _ _ _ k ih (jG hp a b k).2.1
/- Coefficients: a product's are the convolution's rests, trimmed lists of the same coefficients are the same, products commute; no condition. -/
theorem nI (l : List Int) (k : Nat) : (jr l).getD k 0 = l.getD k 0:=by
  obtain ⟨n,h⟩:=vY l
  have e : l.getD k 0 = (jr l ++ List.replicate n 0).getD k 0:=congrArg (fun x=>x.getD k 0) h
  rw [e]
  simp only [List.getD_eq_getElem?_getD]
  by_cases hk : k < (jr l).length
  · rw [List.getElem?_append_left hk]
  · rw [List.getElem?_append_right (by omega),List.getElem?_eq_none (by omega)]
    by_cases h2 : k - (jr l).length < n
    · rw [List.getElem?_replicate,if_pos h2];rfl
    · rw [List.getElem?_replicate,if_neg h2]
theorem qO (n : Nat) : ∀ l : List Int,l.length = n → 0 < (jr l).length → (jr l).getD ((jr l).length - 1) 0 ≠ 0:=by
  induction n with
  | zero =>
    intro l hl h
    rw [List.length_eq_zero_iff.1 hl,zM] at h
    exact absurd h (by simp)
  | succ n ih =>
    intro l hl
    have hne : l ≠ []:=fun e=>by rw [e] at hl;simp at hl
    have hd:=List.dropLast_concat_getLast hne
    have hln : l.dropLast.length = n:=by rw [List.length_dropLast];omega
    generalize l.dropLast = a at hd hln
    generalize l.getLast hne = x at hd
    subst hd
    by_cases hx : x = 0
    · subst hx
      rw [mP]
      exact ih a hln
    · rw [oq a hx]
      intro _
      simp [hx]
theorem vM {l m : List Int} (h : ∀ k,l.getD k 0 = m.getD k 0) : jr l = jr m:=by
  have hg : ∀ k,(jr l).getD k 0 = (jr m).getD k 0:=fun k=>by rw [nI,nI,h k]
  have zero : ∀ (a : List Int) (k : Nat),a.length ≤ k → a.getD k 0 = 0:=fun a k hk=>by rw [List.getD_eq_getElem?_getD,List.getElem?_eq_none hk];rfl
  have hlen : (jr l).length = (jr m).length:=by
    rcases Nat.lt_trichotomy (jr l).length (jr m).length with g | g | g
    · have h1:=qO _ m rfl (by omega)
      rw [← hg,zero _ _ (by omega)] at h1
      exact absurd rfl h1
    · exact g
    · have h1:=qO _ l rfl (by omega)
      rw [hg,zero _ _ (by omega)] at h1
      exact absurd rfl h1
  apply List.ext_getElem hlen
  intro i h1 h2
  have h3:=hg i
  rw [List.getD_eq_getElem?_getD,List.getD_eq_getElem?_getD,List.getElem?_eq_getElem h1,List.getElem?_eq_getElem h2] at h3
  exact h3
/-- The number k of x^i g. -/
def sh (g : List Int) (i k : Nat) : Int:=if i ≤ k then g.getD (k - i) 0 else 0
theorem wD (a : List Int) {k : Nat} (hk : a.length ≤ k) : a.getD k 0 = 0:=by rw [List.getD_eq_getElem?_getD,List.getElem?_eq_none hk];rfl
theorem CZ (o : List Int) (n k : Nat) (x : Int) (hn : n < o.length) : (o.set n x).getD k 0 = if k = n then x else o.getD k 0:=by
  simp only [List.getD_eq_getElem?_getD]
  by_cases h : k = n
  · subst h;rw [List.getElem?_set_self hn,if_pos rfl];rfl
  · rw [List.getElem?_set_ne (Ne.symm h),if_neg h]
theorem DZ (p c : Int) (g : List Int) (i d : Nat) : ∀ (j : Nat) (o : List Int),j + d = g.length → i + g.length ≤ o.length → ∀ k,(jN p c g i d j o).getD k 0 = if i + j ≤ k∧k < i + g.length then (o.getD k 0 + c * g.getD (k - i) 0) % p else o.getD k 0:=by
  induction d with
  | zero =>
    intro j o hj ho k
    rw [jN,if_neg (by omega)]
  | succ d ih =>
    intro j o hj ho k
    rw [jN,ih (j + 1) _ (by omega) (by rw [List.length_set];exact ho) k,CZ _ _ _ _ (by omega)]
    by_cases h1 : k = i + j
    · rw [if_neg (by omega),if_pos h1,if_pos (by omega),h1,show i + j - i = j from by omega]
    · rw [if_neg h1]
      by_cases h2 : i + (j + 1) ≤ k∧k < i + g.length
      · rw [if_pos h2,if_pos (by omega)]
      · rw [if_neg h2,if_neg (by omega)]
theorem zy {p : Int} (hp : 0 < p) (c : Int) (g : List Int) (i : Nat) (o : List Int) (ho : i + g.length ≤ o.length) (hn : Nm p o) (k : Nat) : (jN p c g i g.length 0 o).getD k 0 = (o.getD k 0 + c * sh g i k) % p:=by
  rw [DZ p c g i g.length 0 o (by omega) ho k,sh]
  have hb:=hn.oJ hp k
  by_cases h : i ≤ k
  · rw [if_pos h]
    by_cases h2 : k < i + g.length
    · rw [if_pos (by omega)]
    · rw [if_neg (by omega),wD g (k:=k - i) (by omega),Int.mul_zero,Int.add_zero,Int.emod_eq_of_lt hb.1 hb.2]
  · rw [if_neg (by omega),if_neg h,Int.mul_zero,Int.add_zero,Int.emod_eq_of_lt hb.1 hb.2]
theorem yR (a b p : Int) : (a % p + b) % p = (a + b) % p:=by rw [Int.add_emod,Int.emod_emod,← Int.add_emod]
theorem D5 {g : Nat → Int} {n : Nat} (h : ∀ i,i < n → g i = 0) : sumTo g n = 0:=by
  induction n with
  | zero=>rfl
  | succ n ih=>rw [sumTo,ih (fun i hi=>h i (by omega)),h n (by omega),Int.add_zero]
theorem zX (h : Nat → Int) (n : Nat) : sumTo h (n + 1) = h 0 + sumTo (fun t=>h (t + 1)) n:=by
  induction n with
  | zero=>simp [sumTo]
  | succ n ih =>
    rw [sumTo,ih,sumTo,Int.add_assoc]
theorem BR {p : Int} (hp : 0 < p) (f g : List Int) (d : Nat) : ∀ (i : Nat) (o : List Int),i + d = f.length → f.length + g.length ≤ o.length + 1 → Nm p o → ∀ k,(mF p f g d i o).getD k 0 = (o.getD k 0 + sumTo (fun t=>f.getD (i + t) 0 * sh g (i + t) k) d) % p:=by
  induction d with
  | zero =>
    intro i o hi ho hn k
    have hb:=hn.oJ hp k
    rw [mF,sumTo,Int.add_zero,Int.emod_eq_of_lt hb.1 hb.2]
  | succ d ih =>
    intro i o hi ho hn k
    rw [mF,ih (i + 1) _ (by omega) (by rw [ku];exact ho) (oC hp _ _ _ _ _ _ hn) k,zy hp _ _ _ _ (by omega) hn,yR,zX,Int.add_assoc]
    simp only [Nat.add_zero,Nat.add_assoc,Nat.add_comm 1]
theorem EL {g : List Int} {i k : Nat} (h : i + g.length ≤ k) : sh g i k = 0:=by
  rw [sh,if_pos (by omega),wD g (by omega)]
/-- A product's numbers. -/
theorem EG {p : Int} (hp : 0 < p) (f g : List Int) (k : Nat) : (kV p f g).getD k 0 = sumTo (fun t=>f.getD t 0 * sh g t k) f.length % p:=by
  unfold kV
  split
  · rename_i h
    have hz : ∀ t,t < f.length → f.getD t 0 * sh g t k = 0:=fun t ht=>by
      rcases h with h | h
      · omega
      · have : sh g t k = 0:=by
          unfold sh
          split
          · exact wD g (by omega)
          · rfl
        rw [this,Int.mul_zero]
    rw [D5 hz];simp
  · rename_i h
    rw [nI,BR hp f g f.length 0 _ (by omega) (by rw [List.length_replicate];omega) (Nm.zeros hp _) k]
    have hz : (List.replicate (f.length + g.length - 1) (0 : Int)).getD k 0 = 0:=by
      rw [List.getD_eq_getElem?_getD,List.getElem?_replicate]
      split <;> rfl
    rw [hz,Int.zero_add]
    simp only [Nat.zero_add]
end Go.Proofs.Ytknppcledhnkoaa.Pr
