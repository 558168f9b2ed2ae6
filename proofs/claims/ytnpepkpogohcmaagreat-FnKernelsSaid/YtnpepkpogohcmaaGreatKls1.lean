/- Texts of this session in one: what functions of the program compute, and plain facts of it, under the conditions that each theorem names. -/
import Derived.ArgAppend
import Derived.Below
import Derived.BigQuiet
import Derived.Deep.AppendLies
import Derived.Deep.CutBlock
import Derived.Deep.DeepCutAuto
import Derived.Deep.Draws
import Derived.Deep.LoopGhost
import Derived.Deep.OwnRows
import Derived.Deep.QuietTactic
import Derived.Deep.RegionHeld3
import Derived.KernelRfl
import Derived.Laws.BitsLemmas
import Derived.Laws.BytesArg
import Derived.Laws.IdiomCopy
import Derived.Laws.MakeOwn
import Derived.Laws.OwnMore
import Derived.Laws.Rows
import Derived.Laws.Slices
import Derived.Lib.AppendStr
import Derived.Lib.ConvBytes
import Derived.LoopIn
import Derived.LoopNIn
import Derived.Maps.AppendAt
import Derived.OrdersHeld
import Derived.OwnWalk
import Derived.OwnWalkIn
import Derived.RangeFuncBox
import Derived.RangeFuncLeaves
import Derived.RowKit
import Derived.RowKit3
import Derived.Shelf.Abstract
import Derived.Tactics
import Derived.TacticsInMore
import Derived.Test.YtnpepkpogohcmaaGreatProg
import Derived.WalkKit
import Derived.WalkSpells
import Derived.WideLaws
import Derived.Test.YtnpepkpogohcmaaGreatKWApart
import Derived.Test.YtnpepkpogohcmaaGreatKWArr
import Derived.Test.YtnpepkpogohcmaaGreatKWAt
import Derived.Test.YtnpepkpogohcmaaGreatKWEqStruct
import Derived.Test.YtnpepkpogohcmaaGreatKWFoot
import Derived.Test.YtnpepkpogohcmaaGreatKWFootNe
import Derived.Test.YtnpepkpogohcmaaGreatKWFour
import Derived.Test.YtnpepkpogohcmaaGreatKWGuard
import Derived.Test.YtnpepkpogohcmaaGreatKWInv
import Derived.Test.YtnpepkpogohcmaaGreatKWInvWords
import Derived.Test.YtnpepkpogohcmaaGreatKWKept
import Derived.Test.YtnpepkpogohcmaaGreatKWLast
import Derived.Test.YtnpepkpogohcmaaGreatKWMore
import Derived.Test.YtnpepkpogohcmaaGreatKWN
import Derived.Test.YtnpepkpogohcmaaGreatKWNEv
import Derived.Test.YtnpepkpogohcmaaGreatKWQPut
import Derived.Test.YtnpepkpogohcmaaGreatKWRepsOne
import Derived.Test.YtnpepkpogohcmaaGreatKWShare
import Derived.Test.YtnpepkpogohcmaaGreatKWTab
import Derived.Test.YtnpepkpogohcmaaGreatKWWords
import Derived.Test.YtnpepkpogohcmaaGreatKWZeros
namespace Go.Proofs.YtnpepkpogohcmaaGreat.Pr
/- Function values: what a caller is told of a value of function type (its call answers as a plain function says), and one step of a walk that calls it. -/
open Go.RowKit Go.Proofs.YtnpepkpogohcmaaGreatW.PrintWords Go.Proofs.YtnpepkpogohcmaaGreatW.PrintLast Go.Proofs.YtnpepkpogohcmaaGreatW.PrintMore
section
variable {P : Program} {w W : World} {F : Value}

/-- F is a function value that takes nothing and answers b in every later world. -/
def FnB (P : Program) (w : World) (F : Value) (b : Bool) : Prop :=
  ∃ (g : FuncId) (fi ca : Array Value),F = .func (.func g) fi ca∧Enters P g ∧
    ∀ W,Below w.heap.size w W → Calls P g (fi ++ ca) W fun e W'=>e = .returned (.bool b)∧Below W.heap.size W W'
/-- F is a function value that takes a whole number x and answers f x. -/
def FnI (P : Program) (w : World) (F : Value) (f : Int → Option Bool) : Prop :=
  ∃ (g : FuncId) (fi ca : Array Value),F = .func (.func g) fi ca∧Enters P g ∧
    ∀ x r,f x = some r → ∀ W,Below w.heap.size w W → Calls P g (fi ++ #[.int .i64 x] ++ ca) W fun e W'=>e = .returned (.bool r)∧Below W.heap.size W W'
/-- F is a function value that takes a list l of whole numbers and answers f l. -/
def FnL (P : Program) (w : World) (F : Value) (f : List Int → Option Bool) : Prop :=
  ∃ (g : FuncId) (fi ca : Array Value),F = .func (.func g) fi ca∧Enters P g ∧
    ∀ l r A c,f l = some r → ∀ W,Below w.heap.size w W → Kd.C (Kd.int .i64) W A l.length l → l.length ≤ c →
      Calls P g (fi ++ #[.slice A l.length c] ++ ca) W fun e W'=>e = .returned (.bool r)∧Below W.heap.size W W'

theorem FnB.of {g : FuncId} {fn : Func} (hf : P.funcs[g]? = some fn) (hn : (fn.name == "runtime.NumGoroutine") = false) (hb : fn.body.isSome = true := by rfl) {fi ca : Array Value} {b : Bool}
    (h : ∀ W,Below w.heap.size w W → Calls P g (fi ++ ca) W fun e W'=>e = .returned (.bool b)∧Below W.heap.size W W') : FnB P w (.func (.func g) fi ca) b :=
  ⟨g,fi,ca,rfl,fun args W=>Ea hf hn hb args W,h⟩
theorem FnI.of {g : FuncId} {fn : Func} (hf : P.funcs[g]? = some fn) (hn : (fn.name == "runtime.NumGoroutine") = false) (hb : fn.body.isSome = true := by rfl) {fi ca : Array Value} {f : Int → Option Bool}
    (h : ∀ x r,f x = some r → ∀ W,Below w.heap.size w W → Calls P g (fi ++ #[.int .i64 x] ++ ca) W fun e W'=>e = .returned (.bool r)∧Below W.heap.size W W') : FnI P w (.func (.func g) fi ca) f :=
  ⟨g,fi,ca,rfl,fun args W=>Ea hf hn hb args W,h⟩
theorem FnL.of {g : FuncId} {fn : Func} (hf : P.funcs[g]? = some fn) (hn : (fn.name == "runtime.NumGoroutine") = false) (hb : fn.body.isSome = true := by rfl) {fi ca : Array Value} {f : List Int → Option Bool}
    (h : ∀ l r A c,f l = some r → ∀ W,Below w.heap.size w W → Kd.C (Kd.int .i64) W A l.length l → l.length ≤ c →
      Calls P g (fi ++ #[.slice A l.length c] ++ ca) W fun e W'=>e = .returned (.bool r)∧Below W.heap.size W W') : FnL P w (.func (.func g) fi ca) f :=
  ⟨g,fi,ca,rfl,fun args W=>Ea hf hn hb args W,h⟩

theorem FnB.later {F : Value} {b : Bool} (hb : Below w.heap.size w W) (h : FnB P w F b) : FnB P W F b:=by
  obtain ⟨g,fi,ca,e,he,h⟩:=h
  exact ⟨g,fi,ca,e,he,fun W2 h2=>h W2 (hb.trans (h2.mono hb.size))⟩
theorem FnI.later {F : Value} {f : Int → Option Bool} (hb : Below w.heap.size w W) (h : FnI P w F f) : FnI P W F f:=by
  obtain ⟨g,fi,ca,e,he,h⟩:=h
  exact ⟨g,fi,ca,e,he,fun x r hr W2 h2=>h x r hr W2 (hb.trans (h2.mono hb.size))⟩
theorem FnL.later {F : Value} {f : List Int → Option Bool} (hb : Below w.heap.size w W) (h : FnL P w F f) : FnL P W F f:=by
  obtain ⟨g,fi,ca,e,he,h⟩:=h
  exact ⟨g,fi,ca,e,he,fun l r A c hr W2 h2=>h l r A c hr W2 (hb.trans (h2.mono hb.size))⟩
end
/- Short names for what the printed walks spell out: facts of a world hold in each world that comes of it by new blocks and drawn numbers; no condition. -/
open Go Go.RowKit Go.Proofs.YtnpepkpogohcmaaGreatW.PrintWords Go.Proofs.YtnpepkpogohcmaaGreatW.PrintLast Go.Proofs.YtnpepkpogohcmaaGreatW.PrintMore
/-- `w` comes of `w0` by new blocks and drawn numbers alone. -/
class Up (w0 w : World) : Prop where
  up : Below w0.heap.size w0 w
instance Up.refl (w : World) : Up w w:=⟨Below.refl _ _⟩
instance Up.alloc (w0 w : World) (o : Obj) [u : Up w0 w] : Up w0 (w.alloc o):=⟨gG u.up o⟩
instance Up.drew (w0 w : World) [u : Up w0 w] : Up w0 w.drew:=⟨aW u.up⟩
instance Up.drewN (w0 w : World) (n : Nat) [u : Up w0 w] : Up w0 (w.drewN n):=⟨aZ u.up n⟩
instance Up.setDrewN (w0 w : World) (n : Nat) (a : Addr) (v : Value) [u : Up w0 (w.setCell a v)] : Up w0 ((w.drewN n).setCell a v):=⟨⟨u.up.os,u.up.tape,u.up.output,u.up.size,u.up.block⟩⟩
instance Up.setDrew (w0 w : World) (a : Addr) (v : Value) [u : Up w0 (w.setCell a v)] : Up w0 (w.drew.setCell a v):=⟨⟨u.up.os,u.up.tape,u.up.output,u.up.size,u.up.block⟩⟩
theorem KN (w : World) (n : Nat) (a : Addr) (v : Value) : (w.drewN n).setCell a v = (w.setCell a v).drewN n:=rfl
/-- The block lies behind the border. -/
class Geq (b g : Nat) : Prop where
  geq : b ≤ g
theorem geI {b g : Nat} (h : aa (b ≤ g)) : Geq b g:=⟨h.out⟩
/-- The same, and cells of own blocks may be set. -/
class UpS (b : Nat) (w0 w : World) : Prop where
  up : ∀ {w1 : World},b = w1.heap.size → Below b w1 w0 → Below b w1 w
instance UpS.refl (b : Nat) (w : World) : UpS b w w:=⟨fun _ h=>h⟩
instance UpS.alloc (b : Nat) (w0 w : World) (o : Obj) [u : UpS b w0 w] : UpS b w0 (w.alloc o):=⟨by rintro w1 rfl h;exact gG (u.up rfl h) o⟩
instance UpS.drew (b : Nat) (w0 w : World) [u : UpS b w0 w] : UpS b w0 w.drew:=⟨fun e h=>aW (u.up e h)⟩
instance UpS.drewN (b : Nat) (w0 w : World) (n : Nat) [u : UpS b w0 w] : UpS b w0 (w.drewN n):=⟨fun e h=>aZ (u.up e h) n⟩
instance UpS.setCell (b : Nat) (w0 w : World) (g j : Nat) (v : Value) [u : UpS b w0 w] [q : Geq b g] : UpS b w0 (w.setCell ⟨g,j,none⟩ v):=⟨by rintro w1 rfl h;exact mW (u.up rfl h) q.geq⟩
section
variable {α : Type} {d : Kd α} {e : Nat} {w0 w w1 : World} {base : Nat} {ok : Nat → Prop} {v : Value} {xs : List α}
theorem uR (h : d.R e w0 base ok v xs) [u : Up w0 w] : d.R e w base ok v xs:=Kd.nR h u.up
theorem uC {A : Option Addr} {n : Nat} (h : d.C w0 A n xs) [u : Up w0 w] : d.C w A n xs:=Kd.aM h u.up
theorem uB {g : Nat} {o : Obj} (h : w0.heap[g]? = some o) [u : Up w0 w] : w.heap[g]? = some o:=bM h u.up
theorem uH (h : Below w1.heap.size w1 w0) [u : UpS w1.heap.size w0 w] : Below w1.heap.size w1 w:=u.up rfl h
theorem zA {p : Prop} (h : p) : aa p:=aa.mk h
theorem xB {g : Nat} {o : Obj} (h : aa (w0.heap[g]? = some o)) (hb : Below w.heap.size w w1) [u : Up w0 w] : aa (w1.heap[g]? = some o):=zA (bM (bM h.out u.up) hb)
theorem xR (h : aa (d.R e w0 base ok v xs)) (hb : Below w.heap.size w w1) [u : Up w0 w] : aa (d.R e w1 base ok v xs):=zA (Kd.nR (Kd.nR h.out u.up) hb)
theorem xH {W : World} (h : aa (Below W.heap.size W w0)) (hb : Below w.heap.size w w1) [u : UpS W.heap.size w0 w] : aa (Below W.heap.size W w1):=zA (dC (u.up rfl h.out) hb)
theorem neL {g : Nat} {o : Obj} (h : aa (w0.heap[g]? = some o)) [u : Up w0 w] : g ≠ w.heap.size:=Nat.ne_of_lt (tO (bM h.out u.up))
theorem neG {g : Nat} {o : Obj} (h : aa (w0.heap[g]? = some o)) [u : Up w0 w] : w.heap.size ≠ g:=Nat.ne_of_gt (tO (bM h.out u.up))
end
section
variable {α β : Type} {f : α → β} {x a : α} {l : List α} {i : Nat}
theorem la : Array.map f l.toArray = (l.map f).toArray:=List.map_toArray
theorem lb : List.map f (a :: l) = f a :: List.map f l:=List.map_cons
theorem lc : List.map f [] = []:=List.map_nil
theorem ld : (l.drop i).length = l.length - i:=List.length_drop
theorem le : (l.take i).length = min i l.length:=List.length_take
theorem ls (l : List α) (i : Nat) (a : α) : l.toArray.setIfInBounds i a = (l.set i a).toArray:=List.setIfInBounds_toArray l i a
theorem lz : (x :: l).set 0 a = a :: l:=List.set_cons_zero
theorem ln : (x :: l).set (i + 1) a = x :: l.set i a:=List.set_cons_succ
end
/-- What copy(xs, ys) makes of xs. -/
def cpy (xs ys : List Int) : List Int:=ys.take (min ys.length xs.length) ++ xs.drop (min ys.length xs.length)
section
variable {P : Program} {ops : Array Oper} {rest : List Oper} {o : Oper} {a : Act} {Q : Exit → Act → World → Prop}
theorem SG {k : IntKind} {w0 W : World} (base : Nat) (hgd : o.guard = none) (s x : Operand) (t t' e : TypeId)
    (ho : o.op = .call { callee:=.builtin .copy,args:=#[s,x],argTypes:=#[t,t'] }) (ht : P.underlying t = some (.slice e)) (z : Value) (bytes : Nat) (hinfo : (P.info? e).map (fun i=>(i.zero,i.size,i.bytes)) = some (some z,1,bytes))
    (v : Value) (xs ys : List Int) (A : Option Addr) (m c : Nat) (ok : Nat → Prop) (hs : a.eval s = v) (hx : a.eval x = .slice A m c)
    (HO : (Kd.int k).R e W base ok v xs) (HR : (Kd.int k).C W A m ys) (HB : Below base w0 W) (hbase : base ≤ W.heap.size)
    (h : ∀ w1,(Kd.int k).R e w1 base ok v (cpy xs ys) → Below base w0 w1 → W.grownBy w1 v.ownBlock → (v.ownBlock = v.ownBlock ∨ ∃ b,v.ownBlock = some b∧W.heap.size ≤ b) → wpList P ops Q rest (a.put o.dst (.int .i64 ((min m xs.length : Nat) : Int))) w1) :
    wpList P ops Q (o :: rest) a W:=by
  have hm : ys.length = m:=Kd.arq HR
  subst hm
  have hi : (P.info? e).map (·.size) = some 1:=by
    obtain ⟨i0,hi,hz⟩:=Option.map_eq_some_iff.1 hinfo
    simp only [Prod.mk.injEq] at hz
    rw [hi,Option.map_some,hz.2.1]
  exact Kd.aj7 (h1:=fun _=>rfl) (0 : Int) base hgd s x t t' e ho ht hi v xs ys A ys.length c ok hs hx HO HR HB hbase (fun w1 h1 h2 h3=>h w1 h1 h2 h3 (.inl rfl))
end
attribute [local go_sem] pE pF q8 rf nP nQ pG pI   -- for this text's walks alone
set_option linter.unusedVariables false
set_option linter.unusedSimpArgs false
def ar1 : Option Int → Value
  | none => .nilIface
  | some c => .iface 0 (.int .i64 c)
theorem eP : ar1 none = .nilIface := rfl
theorem eQ (c : Int) : ar1 (some c) = .iface 0 (.int .i64 c) := rfl

theorem l6 : (Tryz.prog.info? 2).map (fun i => (i.zero, i.size, i.bytes)) = some (some (.int .i64 0), 1, 8) := by kernel_rfl
theorem aDN : (Tryz.prog.info? 9).map (fun i => (i.zero, i.size, i.bytes)) = some (some (.string ⟨#[]⟩), 1, 16) := by kernel_rfl
theorem Jd : (Tryz.prog.info? 24).map (fun i => (i.zero, i.size, i.bytes)) = some (some (.slice none 0 0), 1, 24) := by kernel_rfl
-- the values' own types
def dQ (xs : List (List Int)) (i : Int) : (List Int) := xs.getD i.toNat ([] : List Int)
theorem xL {w : World} {A : Option Addr} {n : Nat} {xs : List (List Int)} (h : Kd.C (Kd.slice 2 (Kd.int .i64)) w A n xs) (i : Int) (h0 : 0 ≤ i) (h1 : i < n) : ∃ ad A0 c0, A = some ad ∧ w.cell? (ad.add i.toNat) = some (.slice A0 (dQ xs i).length c0) ∧ (dQ xs i).length ≤ c0 ∧ (Kd.int .i64).C w A0 (dQ xs i).length (dQ xs i) := by
  obtain ⟨ad, c, e, _, hK, hc0⟩ := Kd.ahv h ([] : List Int) i h0 h1
  have hc : ∀ j u, c[j]? = some u → w.cell? (ad.add (i.toNat * 1 + j)) = some u := hc0
  obtain ⟨A0, c0, rfl, l0, g0⟩ := hK
  exact ⟨ad, A0, c0, e, by have hq := hc 0 _ rfl; rwa [Nat.mul_one, Nat.add_zero] at hq, l0, g0⟩

def VN (xs : List (List (List Int))) (i : Int) : (List (List Int)) := xs.getD i.toNat ([] : List (List Int))
theorem aDO {w : World} {A : Option Addr} {n : Nat} {xs : List (List (List Int))} (h : Kd.C (Kd.slice 24 (Kd.slice 2 (Kd.int .i64))) w A n xs) (i : Int) (h0 : 0 ≤ i) (h1 : i < n) : ∃ ad A0 c0, A = some ad ∧ w.cell? (ad.add i.toNat) = some (.slice A0 (VN xs i).length c0) ∧ (VN xs i).length ≤ c0 ∧ (Kd.slice 2 (Kd.int .i64)).C w A0 (VN xs i).length (VN xs i) := by
  obtain ⟨ad, c, e, _, hK, hc0⟩ := Kd.ahv h ([] : List (List Int)) i h0 h1
  have hc : ∀ j u, c[j]? = some u → w.cell? (ad.add (i.toNat * 1 + j)) = some u := hc0
  obtain ⟨A0, c0, rfl, l0, g0⟩ := hK
  exact ⟨ad, A0, c0, e, by have hq := hc 0 _ rfl; rwa [Nat.mul_one, Nat.add_zero] at hq, l0, g0⟩
/- slices.Backward over whole numbers: a loop over it is told of all indices and numbers, from the last one on; the slice lies within the reach. (Turned from a worked text of the kit on slices.All.) -/
open Go.RowKit Go.Shelf
attribute [local go_sem] Oper.semAt_some
theorem add_block (ad : Addr) (j : Nat) : (ad.add j).block = ad.block:=by
  unfold Addr.add
  first | rfl | (split <;> rfl)
/-- What has come when k rounds are over. -/
def upto {α : Type} (f : Nat → α) (k : Nat) : List α:=(List.range k).map f
theorem Ga {α : Type} (f : Nat → α) (k : Nat) : upto f (k + 1) = upto f k ++ [f k]:=by simp [upto,List.range_succ]
theorem QG {α : Type} (f : Nat → α) (k : Nat) : (upto f k).length = k:=by simp [upto]
/-- The k-th one from behind: its index and the number. -/
def bk (zs : List Int) (len k : Nat) : Int × Int:=((len : Int) - 1 - (k : Int),zs[len - 1 - k]?.getD 0)

/-- What a round keeps: whatever lay below n₀, and the box Bs that holds the slice. -/
def KpB (n₀ Bs : Nat) (W W' : World) : Prop:=Below n₀ W W'∧∀ v,W.cell? ⟨Bs,0,none⟩ = some v → W'.cell? ⟨Bs,0,none⟩ = some v
theorem KpB.trans {n₀ Bs : Nat} {A B C : World} (h : KpB n₀ Bs A B) (k : KpB n₀ Bs B C) : KpB n₀ Bs A C:=⟨h.1.trans k.1,fun v e=>k.2 v (h.2 v e)⟩

set_option maxRecDepth 100000 in
set_option maxHeartbeats 2000000 in
theorem aaN (F : Fence) (n : Nat) (h8 : F.fn 76) (hro : F.round = none) (hn : 1 ≤ n) (l Bs n₀ len cap : Nat) (ad : Addr) (zs : List Int) (hreach : len * 8 ≤ 140737488351232) (hb : ad.block < n₀) (J Jx : List (Int × Int) → World → Prop)
    (hY : ∀ pre x W,J pre W → pre.length < len → YieldAt F (n - 1) Tryz.prog l #[.int .i64 x.1,.int .i64 x.2] W fun e W' =>
      (e = .returned (.bool true)∧J (pre ++ [x]) W'∧KpB n₀ Bs W W') ∨ (e = .returned (.bool false)∧Jx (pre ++ [x]) W'))
    (W : World) (hBs : W.cell? ⟨Bs,0,none⟩ = some (.slice (some ad) len cap)) (hc : ∀ j,j < len → W.cell? (ad.add j) = some (.int .i64 (zs[j]?.getD 0))) (h0 : J [] W) :
    CallsIn F n Tryz.prog 76 #[.func (.yield l) #[] #[],.pointer (some ⟨Bs,0,none⟩)] W fun e W'=>(∃ v,e = .returned v) ∧
      ((∃ ys,ys = upto (bk zs len) len∧J ys W') ∨ (∃ pre,(∃ k,k ≤ len∧pre = upto (bk zs len) k)∧Jx pre W')):=by
  refine callsIn_of_wp Tryz.func76 rfl h8 ?_ hro
  simp only [Tryz.ntmps76,List.size_toArray,List.length_cons,List.length_nil,Nat.reduceAdd,Nat.reduceSub,Array.replicate_succ,Array.replicate_zero,List.push_toArray,List.append_toArray,List.nil_append,List.cons_append]
  have hw0 : wrap64 ((len : Int) - 1) = (len : Int) - 1 - ((0 : Nat) : Int):=by unfold wrap64;omega
  gi_wp2
  gi_loopw [3] (fun i wr=>∃ k : Nat,k ≤ len∧i = .int .i64 ((len : Int) - 1 - (k : Int))∧J (upto (bk zs len) k) wr∧KpB n₀ Bs W wr)
    (fun i _=>(intOf i + 1).toNat)
  case atStart=>exact ⟨0,Nat.zero_le _,by first | rfl | (simp;done),h0,Below.refl _ _,fun _ h=>h⟩
  case round =>
    obtain ⟨k,hk,rfl,hJs,hnx⟩:=hrel
    have hcx : k < len → wr.cell? (ad.add (len - 1 - k)) = some (.int .i64 (zs[len - 1 - k]?.getD 0)):=fun h=>(hnx.1.cell (p:=ad.add (len - 1 - k)) (show (ad.add (len - 1 - k)).block < n₀ from by rw [add_block];exact hb)).trans (hc _ (by omega))
    have hbx : wr.cell? ⟨Bs,0,none⟩ = some (.slice (some ad) len cap):=hnx.2 _ hBs
    by_cases hlt : k < len
    · obtain ⟨fn,tmps,assign,body,hy,hR⟩:=hY _ (bk zs len k) wr hJs (by rw [QG];exact hlt)
      dsimp only [bk] at hy
      have hcx':=hcx hlt
      have hi0 : (0 : Int) ≤ (len : Int) - 1 - (k : Int):=by omega
      have hi1 : (len : Int) - 1 - (k : Int) < (len : Int):=by omega
      have hin : ((len : Int) - 1 - (k : Int)).toNat = len - 1 - k:=by omega
      have hw1 : wrap64 ((len : Int) - 1 - (k : Int) - 1) = (len : Int) - 1 - ((k + 1 : Nat) : Int):=by unfold wrap64;omega
      gi_wp2
      refine hR.mono ?_
      rintro e W3 (⟨rfl,hJ3,hk3⟩ | ⟨rfl,hJx3⟩)
      · gi_wp2
        go_roundw
        case rel=>exact ⟨k + 1,by omega,by first | rfl | (simp;done) | (simp;omega),by rw [Ga];exact hJ3,hnx.trans hk3⟩
        case measure=>simp [intOf];omega
      · gi_wp2
        refine bodyPost_ret (results_none rfl _ _ _) rfl ?_
        exact ⟨⟨_,rfl⟩,.inr ⟨_,⟨k + 1,by omega,(Ga _ _).symm⟩,hJx3⟩⟩
    · obtain rfl : k = len:=by omega
      have hng : ¬ ((0 : Int) ≤ (k : Int) - 1 - (k : Int)):=by omega
      gi_wp2
      go_end0
      first | exact ⟨⟨_,rfl⟩,.inl ⟨_,rfl,hJs⟩⟩ | exact ⟨⟨_,rfl⟩,.inl hJs⟩

set_option maxRecDepth 100000 in
set_option maxHeartbeats 1000000 in
theorem Oo (F : Fence) (n : Nat) (h8 : F.fn 76) (hro : F.round = none) (l Bs cap : Nat) (A : Option Addr) (J : List (Int × Int) → World → Prop) (W : World) (hBs : W.cell? ⟨Bs,0,none⟩ = some (.slice A 0 cap)) (h0 : J [] W) :
    CallsIn F n Tryz.prog 76 #[.func (.yield l) #[] #[],.pointer (some ⟨Bs,0,none⟩)] W fun e W'=>(∃ v,e = .returned v)∧J [] W':=by
  refine callsIn_of_wp Tryz.func76 rfl h8 ?_ hro
  simp only [Tryz.ntmps76,List.size_toArray,List.length_cons,List.length_nil,Nat.reduceAdd,Nat.reduceSub,Array.replicate_succ,Array.replicate_zero,List.push_toArray,List.append_toArray,List.nil_append,List.cons_append]
  gi_wp2
  gi_loopw [3] (fun i wr=>i = .int .i64 (-1)∧J [] wr) (fun _ _=>0)
  case atStart=>exact ⟨rfl,h0⟩
  case round =>
    obtain ⟨rfl,hJs⟩:=hrel
    gi_wp2
    go_end0
    exact ⟨⟨_,rfl⟩,hJs⟩

set_option maxHeartbeats 1000000 in
/-- slices.Backward(s): the slice value is boxed; the function value captures the box. -/
theorem ae8 (F : Fence) (n : Nat) (h5 : F.fn 53) (hro : F.round = none) (a : Option Addr) (len cap : Nat) (w : World) :
    CallsIn F n Tryz.prog 53 #[.slice a len cap] w fun e w'=>e = .returned (.func (.func 76) #[] #[.pointer (some ⟨w.heap.size,0,none⟩)])∧w' = w.alloc (.cells #[.slice a len cap] 24):=by
  refine callsIn_of_wp Tryz.func53 rfl h5 ?_ hro
  simp only [Tryz.ntmps53,List.size_toArray,List.length_cons,List.length_nil,Nat.reduceAdd,Nat.reduceSub,Array.replicate_succ,Array.replicate_zero,List.push_toArray,List.append_toArray,List.nil_append,List.cons_append]
  gi_wp2
  go_ret
  exact ⟨rfl,rfl⟩
/-- The slice value holds the numbers, in a block below n₀; or there are none. -/
def LH (n₀ : Nat) (W : World) (sv : Value) (zs : List Int) : Prop :=
  (zs = []∧∃ A cap,sv = .slice A 0 cap) ∨ ∃ ad cap,sv = .slice (some ad) zs.length cap∧ad.block < n₀∧∀ j,j < zs.length → W.cell? (ad.add j) = some (.int .i64 (zs[j]?.getD 0))
theorem LH.below {n₀ : Nat} {A B : World} (h : Below n₀ A B) {sv : Value} {zs : List Int} : LH n₀ A sv zs → LH n₀ B sv zs
  | .inl e=>.inl e
  | .inr ⟨ad,cap,e,hb,hc⟩=>.inr ⟨ad,cap,e,hb,fun j hj=>(h.cell (p:=ad.add j) (show (ad.add j).block < n₀ from by rw [add_block];exact hb)).trans (hc j hj)⟩
/-- A loop over slices.Backward(s) is told of all indices and numbers, from the last one on. -/
theorem SH (F : Fence) (n : Nat) (h8 : F.fn 76) (hro : F.round = none) (hn : 1 ≤ n) (Bs n₀ : Nat) (sv : Value) (zs : List Int) (hreach : zs.length * 8 ≤ 140737488351232) (w : World) (hB0 : Bs < w.heap.size) (hn₀ : n₀ ≤ w.heap.size)
    (hc : w.cell? ⟨Bs,0,none⟩ = some sv) (hI : LH n₀ w sv zs) :
    SeqStopsK F n Tryz.prog 76 #[.pointer (some ⟨Bs,0,none⟩)] (fun x : Int × Int=>#[Value.int .i64 x.1,Value.int .i64 x.2]) (KpB n₀ Bs) (fun ys=>ys = upto (bk zs zs.length) zs.length) (fun pre=>∃ k,k ≤ zs.length∧pre = upto (bk zs zs.length) k) zs.length w:=fun l J Jx W hW _ _ hY h0=>by
  have hc':=(hW.cell (p:=⟨Bs,0,none⟩) hB0).trans hc
  rcases hI.below (hW.mono hn₀) with ⟨rfl,A,cap,rfl⟩ | ⟨ad,cap,rfl,hb,hcs⟩
  · exact (Oo F n h8 hro l Bs cap A J W hc' h0).mono fun e W' ⟨he,hj⟩=>⟨he,.inl ⟨_,rfl,hj⟩⟩
  · exact aaN F n h8 hro hn l Bs n₀ zs.length cap ad zs hreach hb J Jx hY W hc' hcs h0
/- slices.Clone at []int64: a new row with the same numbers (nil stays nil). -/
def pQ.f (l : List Int) : Option (List Int):=if l.length < 17592186044416 then some l else none

set_option maxHeartbeats 8000000 in
set_option maxRecDepth 100000 in
theorem pQ.calls (A0 : Option Addr) (c0 : Nat) (l0 : List Int) (r : List Int) (w : World) (hr0 : Kd.C (Kd.int .i64) w A0 l0.length l0) (hc0 : l0.length ≤ c0) (h : pQ.f l0 = some r) :
    Calls Tryz.prog 103 #[.slice A0 l0.length c0] w fun e w'=>∃ v0_ : Value,e = .returned (v0_)∧Kd.R (Kd.int .i64) 2 w' w.heap.size (fun _=>True) v0_ r∧Below w.heap.size w w':=by
  have hnil : ∀ (W : World) (a : Option Addr) (n c : Nat),(Go.binOp .eql 24 (.slice a n c) (.slice none 0 0)).run Tryz.prog W = .ok (.bool a.isNone) W:=fun W a n c=>Lib.run_eql_slice_nil W 24 2 a n c 0 0 Tryz.underlying24
  unfold pQ.f at h
  split at h
  case isFalse=>cases h
  rename_i c2
  obtain rfl:=Option.some.inj h
  clear h
  have HR0:=aa.mk hr0
  have HC0:=aa.mk hc0
  clear hr0 hc0
  have HB:=aa.mk (Below.refl w.heap.size w)
  have akp:=aa.mk c2
  clear c2
  cases A0 with
  | none =>
    have hl : l0 = []:=by
      rcases l0 with _ | ⟨x,l⟩
      · rfl
      · obtain ⟨ad,e,_⟩:=Kd.ik HR0.out 0 (by omega) (by simp only [List.length_cons];omega)
        cases e
    subst hl
    go_enter Tryz.func103,Tryz.ntmps103
    go_wp2
    go_ret
    exact ⟨_,rfl,Kd.pq _ _ _ _ _,HB.out⟩
  | some ad0 =>
    obtain ⟨sU,ahF⟩ : ∃ y_ : List Int,y_ = (([] : List Int)):=⟨_,rfl⟩
    have JN:=aa.mk ahF
    clear ahF
    obtain ⟨lX,ahG⟩ : ∃ y_ : List Int,y_ = (sU ++ l0):=⟨_,rfl⟩
    have Qi:=aa.mk ahG
    clear ahG
    go_enter Tryz.func103,Tryz.ntmps103
    go_wp2_with (first | ((with_reducible refine bP (N:=5) rfl ?_);refine Kd.rE (Kd.int .i64) _ 2 ?hg (N:=5) ?hd (xs:=([] : List Int)) (inner:=[]) (ok:=fun _=>True) (okp:=fun _=>True) ?hr ?hp (fun _ hk=>hk) trivial (Below.refl _ _) (Nat.le_refl _) (by simp) ?_;(case hd=>rfl);(case hg=>rfl);(case hr=>first | (go_simp;done) | (go_simp;rfl));(case hp=>exact (dh.none _ _));intro apU w3 ho4 hb hg_ hnew_;clear hg_ hnew_;(first | rw [← JN.out] at ho4 | (simp only [Int.reduceToNat] at ho4;rw [← JN.out] at ho4));have n0_:=aa.mk (Kd.bu ho4 (af (by repeat (first | (with_reducible first | exact HB.out | apply gG | apply aZ | apply aW) | exact HB.out))));have n1_:=aa.mk (dC (by repeat (first | (with_reducible first | exact HB.out | apply gG | apply aZ | apply aW) | exact HB.out)) hb);clear HB;have lV:=n0_;have HB:=n1_;clear n0_ n1_;clear hb ho4) | ((with_reducible refine fe (b:=.append) (xs:=#[.tmp 5,.tmp 6]) rfl ?_);at_builtin;refine Kd.vT (Kd.int .i64) (w0:=w) w.heap.size rfl (.tmp 5) (.tmp 6) 24 2 (.int .i64 0) 8 rfl Tryz.underlying24 l6 rfl (by decide) (by omega) apU sU l0 _ _ _ (fun _=>True) (fun _=>False) rfl rfl ?aO ?aR (fun _ _ h=>h) (fun _ h=>h.elim) ?aF ?aB ?aS ?aL ?_;(case aR=>repeat (first | exact (Kd.aM HR0.out HB.out) | (with_reducible refine Kd.bW ?_ _) | (with_reducible refine Kd.bY ?_ _) | (with_reducible refine Kd.dH ?_)));(case aB=>exact (by repeat (first | (with_reducible first | exact HB.out | apply gG | apply aZ | apply aW) | exact HB.out)));(case aF=>exact (fun _ _=>trivial));(case aO=>exact (by (with_reducible repeat (first | apply Kd.vS | apply Kd.uO | apply Kd.gz));exact lV.out));(case aS=>exact (af (by repeat (first | (with_reducible first | exact HB.out | apply gG | apply aZ | apply aW) | exact HB.out))));(case aL=>have:=akp.out;have e:=JN.out;rw [e];simp;omega);intro azj w5 ho hb hg hat;rw [← Qi.out] at ho;have n0_:=aa.mk (hb);have n1_:=aa.mk (ho);clear HB;clear lV;have HB:=n0_;have mQ:=n1_;clear n0_ n1_;clear ho hb hg hat))
    go_ret
    have e : l0 = lX:=by rw [Qi.out,JN.out];rfl
    rw [e]
    exact ⟨_,rfl,by (with_reducible repeat (first | apply Kd.vS | apply Kd.uO | apply Kd.gz));exact mQ.out,by repeat (first | (with_reducible first | exact HB.out | apply gG | apply aZ | apply aW) | exact HB.out)⟩
/- An element of a row of rows that is the call's own is the call's own; no condition. -/
theorem ajx {v : Value} {n : Nat} (h : ∃ b,v.ownBlock = some b∧n ≤ b) : ∀ k,v.ownBlock = some k → n ≤ k:=fun k e=>by
  obtain ⟨b,h1,h2⟩:=h
  rw [h1] at e
  cases e
  exact h2
theorem aeC {α : Type} {d : Kd α} {e base : Nat} {ok : Nat → Prop} {W : World} {A : Option Addr} {m c : Nat} {ys : List α} (h : d.R e W base ok (.slice A m c) ys) : mR (d.M W base ok) d.sz W A m ys:=by
  obtain ⟨A',c',hv,_,hr⟩:=h.2.reads
  cases hv
  exact mR.uz hr (Below.refl _ _) (fun _ _ hp=>d.M_mono (fun k hk=>hk.1) hp)
theorem rT {α : Type} {d : Kd α} {e base : Nat} {ok : Nat → Prop} {W w1 : World} {u v v1 : Value} {xs : List α} (h : d.R e W base (fun k=>ok k∧some k ≠ v.ownBlock) u xs) (hg : W.grownBy w1 v.ownBlock) (hat : v1.ownBlock = v.ownBlock ∨ ∃ b,v1.ownBlock = some b∧W.heap.size ≤ b) : d.R e w1 base (fun k=>ok k∧some k ≠ v1.ownBlock) u xs:=by
  refine Kd.ag (Kd.FJ (Kd.p9 h) (fun k hk hlt=>hg.block k hlt hk.1.2)) (fun k hk=>⟨hk.1.1,?_⟩)
  rcases hat with hat | ⟨b,hb,hle⟩
  · rw [hat];exact hk.1.2
  · rw [hb]
    intro e_
    cases e_
    have:=hk.2.2.1
    omega
theorem aec {e e' base : Nat} {ok : Nat → Prop} {W : World} {ad : Addr} {n cap : Nat} {xs : List (List Int)} (h : Kd.R (Kd.slice e' (Kd.int .i64)) e W base ok (.slice (some ad) n cap) xs) (i : Int) (h0 : 0 ≤ i) (h1 : i < (n : Int))
    {A : Option Addr} {m c : Nat} (hc : W.cell? (ad.add i.toNat) = some (.slice A m c)) : Kd.R (Kd.int .i64) e' W base ok (.slice A m c) (dQ xs i):=by
  have hown:=h.2
  obtain ⟨inner,ho,_⟩:=hown
  obtain ⟨_,ho⟩:=ho
  rcases ho with ⟨hv,_⟩ | ⟨g,cp,cur,hv,hg,hh,r⟩
  · cases hv
  · injection hv with e1 e2 e3
    injection e1 with e1
    subst e1
    obtain ⟨cs,hl,hM,hcell,_⟩:=Kd.Rl h [] i h0 h1
    obtain ⟨v,rfl,hR⟩:=hM
    have h2:=hcell 0 v rfl
    have h3 : W.cell? ⟨g,i.toNat * 1 + 0,none⟩ = some v:=h2
    have h4 : (⟨g,i.toNat * 1 + 0,none⟩ : Addr) = (⟨g,0,none⟩ : Addr).add i.toNat:=by simp [Addr.add]
    rw [h4,hc] at h3
    cases h3
    exact Kd.ag hR (fun _ hk=>hk.1)
/- Short steps of a walk through a region whose order is drawn (each stands for a row that the print spells out); no condition. -/
/-- The lowest n bits of m. -/
def bq : Nat → Nat → List Bool
  | 0,_=>[]
  | n + 1,m=>(m % 2 == 1) :: bq n (m / 2)
def bl (n m : Nat) : Array Bool:=⟨bq n m⟩
section
variable {P : Program} {ops : Array Oper} {Q : Exit → Act → World → Prop} {S : World → Prop} {ds : List Nat} {T : Bool × List (List Nat × List Nat)} {B : List Nat} {fuel : Nat} {l : Array Bool} {a a' : Act} {w : World} {oi : Oper} {v : Value}
theorem pu_ (i : Nat) (N : Tmp) (l' : Array Bool) (HT : aa (nu .any ops = T)) (h : cK P .any ops Q S ds fuel l' a' w)
    (hi : ops[i]? = some oi:=by rfl) (hN : oi.dst = some N:=by rfl) (hc : acJ T l.toList l'.toList i = true:=by kernel_rfl)
    (hQ : ∀ c a w,Q (.panic c) (a.put oi.dst v) w → Q (.panic c) a w:=by exact fun _ _ _ h=>h)
    (hy : Yields P ops oi v a:=by exact Or.inl ⟨by rfl,by intro w';go_simp;with_reducible rfl⟩)
    (ha : a.put (some N) v = a':=by (simp only [Act.put,ls,lz,ln,iI,kz];rfl)) : cK P .any ops Q S ds (fuel + 1) l a w :=
  Aw l' hi hN (Ya HT.out hc) hQ hy ha h
theorem un_ (i : Nat) (N : Tmp) (l' : Array Bool) (HT : aa (nu .any ops = T)) (h : cK P .any ops Q S ds fuel l' a' w)
    (hi : ops[i]? = some oi:=by rfl) (hN : oi.dst = some N:=by rfl) (hc : acJ T l.toList l'.toList i = true:=by kernel_rfl)
    (hQ : ∀ c a w,Q (.panic c) (a.put oi.dst undef) w → Q (.panic c) a w:=by exact fun _ _ _ h=>h)
    (hy : Yields P ops oi undef a:=by exact Or.inr ⟨by rfl,rfl⟩)
    (ha : a.put (some N) undef = a':=by (simp only [Act.put,ls,lz,ln,iI,kz];rfl)) : cK P .any ops Q S ds (fuel + 1) l a w :=
  Aw l' hi hN (Ya HT.out hc) hQ hy ha h
theorem ta_ (i : Nat) (N : Tmp) (l' : Array Bool) (HT : aa (nu .any ops = T)) (HW : aa (jO T.2 B = true)) (hS : S w) (h : cK P .any ops Q S ds fuel l' a' w)
    (hi : ops[i]? = some oi:=by rfl) (hN : oi.dst = some N:=by rfl) (hc : Yc T B ds l.toList l'.toList i = true:=by kernel_rfl)
    (hQ : ∀ c a w,Q (.panic c) (a.put oi.dst v) w → Q (.panic c) a w:=by exact fun _ _ _ h=>h)
    (hy : YieldsIf P ops S oi v a:=by exact Or.inl ⟨by rfl,by intro w' hs;go_simp;with_reducible rfl⟩)
    (ha : a.put (some N) v = a':=by (simp only [Act.put,ls,lz,ln,iI,kz];rfl)) : cK P .any ops Q S ds (fuel + 1) l a w :=
  yY l' hi hN (I1 HT.out HW.out hc) hQ hy hS ha h
theorem on_ (i : Nat) (N : Option Tmp) (l' : Array Bool) (HT : aa (nu .any ops = T))
    (h : ∀ K : Act → World → Prop,Shut (∀ a' w',S w' → (S w' → cK P .any ops Q S ds fuel l' a' w') → K a' w') → if Region.wanted oi (yielded ops a.tmps) = true then Oper.wp P oi a w K Q else K (a.put N undef) w)
    (hi : ops[i]? = some oi:=by rfl) (hN : oi.dst = N:=by rfl) (hc : (xE T.2 l.toList == [i] && l.toList.set i true == l'.toList) = true:=by kernel_rfl) (hd : i ∉ ds:=by decide) : cK P .any ops Q S ds (fuel + 1) l a w :=
  Ky l' hi hN (wM HT.out hc) hd h
theorem no_ {a0 : Act} (N : Tmp) (h : cK P .any ops Q S ds fuel l a' w) (ha : a0.put (some N) v = a':=by (simp only [Act.put,ls,lz,ln,iI,kz];rfl)) : cK P .any ops Q S ds fuel l (a0.put (some N) v) w:=Gt ha h
end
/- One more short step: what is read at the world where it comes up; no condition. -/
section
variable {P : Program} {ops : Array Oper} {Q : Exit → Act → World → Prop} {S : World → Prop} {ds : List Nat} {T : Bool × List (List Nat × List Nat)} {fuel : Nat} {l : Array Bool} {a a' : Act} {w : World} {oi : Oper} {v : Value}
theorem lo_ (i : Nat) (N : Tmp) (l' : Array Bool) (HT : aa (nu .any ops = T)) (hS : S w) (h : cK P .any ops Q S ds fuel l' a' w)
    (hi : ops[i]? = some oi:=by rfl) (hN : oi.dst = some N:=by rfl) (hc : (xE T.2 l.toList == [i] && l.toList.set i true == l'.toList) = true:=by kernel_rfl) (hd : i ∉ ds:=by decide)
    (hw : Region.wanted oi (yielded ops a.tmps) = true:=by rfl) (hrun : (execOp a.eval oi).run P w = .ok (.value v) w:=by (go_simp;with_reducible rfl))
    (ha : a.put (some N) v = a':=by (simp only [Act.put,ls,lz,ln,iI,kz];rfl)) : cK P .any ops Q S ds (fuel + 1) l a w:=by
  subst ha
  exact Ky l' hi hN (wM HT.out hc) hd (fun K hK=>FH hw hN hrun (hK.out _ _ hS (fun _=>h)))
end
instance Up.amV (w0 w : World) (n : Nat) (a b : Addr) (v u : Value) [q : Up w0 ((w.setCell a v).setCell b u)] : Up w0 (((w.drewN n).setCell a v).setCell b u):=⟨⟨q.up.os,q.up.tape,q.up.output,q.up.size,q.up.block⟩⟩
instance Up.amW (w0 w : World) (n : Nat) (a b c : Addr) (v u x : Value) [q : Up w0 (((w.setCell a v).setCell b u).setCell c x)] : Up w0 ((((w.drewN n).setCell a v).setCell b u).setCell c x):=⟨⟨q.up.os,q.up.tape,q.up.output,q.up.size,q.up.block⟩⟩
/- More short forms of what the printed walks spell out; no condition. -/
/-- The block k is not the row v's own. -/
abbrev ax (k : Nat) (v : Value) : Prop:=some k ≠ v.ownBlock
theorem bc {w : World} {g : Nat} {t : TypeId} {cs : Array Value} (h : aa (w.heap[g]? = some (.cells cs t (0,0)))) (i : Nat) {v : Value} (hv : cs[i]? = some v:=by rfl) : w.cell? ⟨g,i,none⟩ = some v:=(bT h.out i).trans hv
theorem bcu {w0 w : World} {g : Nat} {t : TypeId} {cs : Array Value} (h : aa (w0.heap[g]? = some (.cells cs t (0,0)))) (i : Nat) {v : Value} [u : Up w0 w] (hv : cs[i]? = some v:=by rfl) : w.cell? ⟨g,i,none⟩ = some v:=(bT (uB h.out) i).trans hv
theorem bf {w : World} {g : Nat} {t : TypeId} {cs : Array Value} (h : aa (w.heap[g]? = some (.cells cs t (0,0)))) (i : Nat) : w.frozen? ⟨g,i,none⟩ = false:=dz h.out i
theorem gq {b w w0 : World} {g : Nat} (HB : aa (Below b.heap.size b w0)) (hg : g = w.heap.size) [u : UpS b.heap.size w0 w] : aa (b.heap.size ≤ g):=⟨by rw [hg];exact af (u.up rfl HB.out)⟩
theorem hc {b w : World} {p : Addr} {v : Value} (HB : aa (Below b.heap.size b w)) (h : b.cell? p = some v) : w.cell? p = some v:=(HB.out.cell (World.block_lt_of_cell? b p h)).trans h
theorem hcu {b w0 w : World} {p : Addr} {v : Value} (HB : aa (Below b.heap.size b w0)) (h : b.cell? p = some v) [u : UpS b.heap.size w0 w] : w.cell? p = some v:=((u.up rfl HB.out).cell (World.block_lt_of_cell? b p h)).trans h
section
variable {P : Program} {ops : Array Oper} {Q : Exit → Act → World → Prop} {rest : List Oper} {oi : Oper} {a : Act} {w : World} {f : FuncId} {fn : Func} {az : Array Operand} {ts : Array TypeId}
theorem gL (N : Option Tmp) (hf : P.funcs[f]? = some fn) (args : Array Value) (h : Calls P f args w fun e w'=>∃ v,e = .returned v∧wpList P ops Q rest (a.put N v) w')
    (hd : oi.dst = N := by rfl) (hg : oi.guard = none := by rfl) (hname : (fn.name == "runtime.NumGoroutine") = false := by kernel_rfl) (hb : fn.body.isSome = true := by rfl)
    (hop : oi.op = .call { callee:=.value (.func f),args:=az,argTypes:=ts }:=by rfl) (hargs : az.map a.eval = args:=by ((try simp only [la,lb,lc]);first | done | rfl | (simp only [ld,le];rfl))) : wpList P ops Q (oi :: rest) a w :=
  uw N hd hg hf hname hb args hop hargs h
theorem bx (N : Tmp) (cs : Array Value) (t : TypeId) (h : ∀ g,g = w.heap.size → ∀ w1,w1.heap[g]? = some (.cells cs t (0,0)) → Below w.heap.size w w1 → wpList P ops Q rest (a.put oi.dst (.pointer (some ⟨g,0,none⟩))) w1)
    (hd : oi.dst = some N:=by rfl) (hg : oi.guard = none:=by rfl)
    (hr : (execOp a.eval oi).run P w = .ok (.value (.pointer (some ⟨w.heap.size,0,none⟩))) (w.alloc (.cells cs t (0,0))):=by first | (go_simp;done) | (go_simp;rfl)) : wpList P ops Q (oi :: rest) a w :=
  qV hg hd hr h
theorem gS {N : Option Tmp} {K : Act → World → Prop} (hf : P.funcs[f]? = some fn) (args : Array Value) (h : Calls P f args w fun e w'=>∃ v,e = .returned v∧K (a.put N v) w')
    (hname : (fn.name == "runtime.NumGoroutine") = false := by kernel_rfl) (hb : fn.body.isSome = true := by rfl) (hw : Region.wanted oi (yielded ops a.tmps) = true := by rfl) (hN : oi.dst = N := by rfl)
    (hop : oi.op = .call { callee:=.value (.func f),args:=az,argTypes:=ts }:=by rfl) (hargs : az.map a.eval = args:=by ((try simp only [la,lb,lc]);first | done | rfl | (simp only [ld,le];rfl))) : if Region.wanted oi (yielded ops a.tmps) = true then Oper.wp P oi a w K Q else K (a.put N undef) w :=
  O9 hf hname hb args hw hN hop hargs h
end
/-- One step back: a new block, or drawn numbers. -/
class Up1 (w : outParam World) (w1 : World) : Prop where
  up : Below w.heap.size w w1
instance Up1.alloc (w : World) (o : Obj) : Up1 w (w.alloc o):=⟨gG (Below.refl _ _) o⟩
instance Up1.drew (w : World) : Up1 w w.drew:=⟨aW (Below.refl _ _)⟩
instance Up1.drewN (w : World) (n : Nat) : Up1 w (w.drewN n):=⟨aZ (Below.refl _ _) n⟩
theorem up1 {w w1 : World} {g : Nat} {o : Obj} [u : Up1 w w1] (h : w.heap[g]? = some o) : w1.heap[g]? = some o:=bM h u.up
section
variable {α : Type} {d : Kd α} {e base g t : Nat} {ok : Nat → Prop} {w : World} {v : Value} {xs : List α} {cells : Array Value}
/-- A row stays where the cells of a block of another type are set. -/
theorem rf2 (h : aa (d.R e w base ok v xs)) (hb : aa (w.heap[g]? = some (.cells cells t (0,0)))) (ht : ∀ q,q ∈ e :: d.E → q ≠ t) (a b : Value) : d.R e ((w.setCell ⟨g,0,none⟩ a).setCell ⟨g,1,none⟩ b) base ok v xs :=
  Kd.ag (Kd.bn (p:=⟨g,1,none⟩) (Kd.bn (p:=⟨g,0,none⟩) (Kd.bF h.out hb.out ht) (fun _ hk=>hk.2) a) (fun _ hk=>hk.2) b) (fun _ hk=>hk.1)
end
/- Short forms of rows that a great law's printed walk tells again and again; no condition. -/
section
variable {α β γ : Type} {d : Kd α} {d0 : Kd β} {d1 : Kd γ} {e e0 e1 base b0 : Nat} {ok ok0 ok1 : Nat → Prop} {W w w1 : World} {u v v0 v1 : Value} {xs : List α} {xs0 : List β} {xs1 : List γ}
theorem td2 (hu : d.R e W base ok u xs) (hb : Below W.heap.size W w1) (h0 : d0.R e0 w1 W.heap.size ok0 v0 xs0) (h1 : d1.R e1 w1 W.heap.size ok1 v1 xs1) : aa (d.R e w1 base (fun k=>(ok k∧some k ≠ v0.ownBlock)∧some k ≠ v1.ownBlock) u xs) :=
  zA (Kd.ag (Kd.F7 (Kd.F7 (Kd.aru hu hb) (Kd.aH h0)) (Kd.aH h1)) (fun _ h=>h.1))
theorem nw (h : d.R e w1 W.heap.size ok v xs) (h' : d0.R e0 W b0 ok0 u xs0) : d.R e w1 W.heap.size (fun k=>ok k∧some k ≠ u.ownBlock) v xs:=Kd.aj6 h (Kd.jX h')
theorem rc {A : Option Addr} {n c : Nat} (h : d.R e w base ok (.slice A n c) xs) : d.C w A xs.length xs:=(Kd.aC h).2.2
end
set_option maxHeartbeats 8000000
set_option maxRecDepth 100000
/-! ### rR: function 27 -/
def rR.f  : Option (Bool):=some true
theorem rR.calls  (r : Bool) (w : World) (H : rR.f  = some r) :
  Calls Tryz.prog 27 #[] w fun e w'=>e = .returned (.bool r)∧aQ w w':=by
 unfold rR.f at H;obtain rfl:=Option.some.inj H;go_enter Tryz.func27,Tryz.ntmps27;go_wp2;go_ret;exact ⟨by first | rfl | (simp;done) | (simp [*];done),by repeat (first | exact aQ.refl _ | apply aQ.step)⟩
/-! ### fO: function 47 -/
def fO.f (l0 : List Int) : Option (Int):=some (l0.length : Int)
theorem fO.calls (A0 : Option Addr) (c0 : Nat) (l0 : List Int) (r : Int) (w : World) (hr0 : Kd.C (Kd.int .i64) w A0 l0.length l0) (hc0 : l0.length ≤ c0) (H : fO.f l0 = some r) :
  Calls Tryz.prog 47 #[.slice A0 l0.length c0] w fun e w'=>e = .returned (.int .i64 r)∧aQ w w':=by
 have HR0:=zA hr0;have HC0:=zA hc0;clear hr0 hc0;unfold fO.f at H;obtain rfl:=Option.some.inj H;go_enter Tryz.func47,Tryz.ntmps47;go_wp2;go_ret;exact ⟨by first | rfl | (simp;done) | (simp [*];done),by repeat (first | exact aQ.refl _ | apply aQ.step)⟩
/-! ### uA: function 4 -/
def uA.f (l0 : List Int) : Option (Bool):=some (decide ((l0.length : Int) > 4096))
theorem uA.calls (A0 : Option Addr) (c0 : Nat) (l0 : List Int) (r : Bool) (w : World) (hr0 : Kd.C (Kd.int .u8) w A0 l0.length l0) (hc0 : l0.length ≤ c0) (H : uA.f l0 = some r) :
  Calls Tryz.prog 4 #[.slice A0 l0.length c0] w fun e w'=>e = .returned (.bool r)∧aQ w w':=by
 have HR0:=zA hr0;have HC0:=zA hc0;clear hr0 hc0;unfold uA.f at H;obtain rfl:=Option.some.inj H;go_enter Tryz.func4,Tryz.ntmps4;go_wp2;go_ret;exact ⟨by first | rfl | (simp;done) | (simp [*];done),by repeat (first | exact aQ.refl _ | apply aQ.step)⟩
/- Steps that stand in for tactics told again and again: the proofs are found where the lemma is called. -/
theorem eX {α : Type} {a b : α} (h : a = b:=by first | rfl | (simp [eP,eQ] <;> rfl) | (simp [*,eP,eQ] <;> rfl)) : a = b:=h
theorem eS {α : Type} {a b : α} (h : a = b:=by first | rfl | (simp;done) | (simp [*];done)) : a = b:=h
section
variable {α : Type} {d : Kd α} {e base : Nat} {ok : Nat → Prop} {w W : World} {v : Value} {xs : List α}
theorem uV {w0 : World} (h : Kd.V d e w0 base ok v xs) [u : Up w0 w] : Kd.V d e w base ok v xs:=Kd.jd h u.up
theorem uN {w0 : World} (h : Kd.N d e w0 base ok v xs) [u : Up w0 w] : Kd.N d e w base ok v xs:=Kd.kT h u.up
theorem nB {b : World} (hw : W = w) (h : Below b.heap.size b w) : aa (Below b.heap.size b W):=by subst hw;exact zA h
end
/- Steps that take a told equation apart: a condition that must hold, one of two ways, an answer bound; no condition. -/
section
variable {α β : Type} {P : Prop} [Decidable P] {x y : Option α} {r : α}
theorem gI (h : (if P then x else y) = some r) : (¬ P∧y = some r) ∨ (P∧x = some r):=by
  by_cases c : P
  · exact .inr ⟨c,by rwa [if_pos c] at h⟩
  · exact .inl ⟨c,by rwa [if_neg c] at h⟩
theorem gN (h : (if P then x else none) = some r) : P∧x = some r:=by
  rcases gI h with ⟨_,h⟩ | h
  · cases h
  · exact h
theorem gD (h : (if P then x else none) = some r) : decide P = true∧x = some r:=⟨decide_eq_true (gN h).1,(gN h).2⟩
theorem gZ (h : (if P then x else none) = some r) : aa P∧x = some r:=⟨⟨(gN h).1⟩,(gN h).2⟩
theorem gF (h : (if P then x else y) = some r) : (decide P = false∧y = some r) ∨ (decide P = true∧x = some r) :=
  (gI h).imp (fun h=>⟨decide_eq_false h.1,h.2⟩) (fun h=>⟨decide_eq_true h.1,h.2⟩)
theorem gE {γ : Type} [BEq γ] [LawfulBEq γ] {a b : γ} [Decidable (a = b)] (h : (if a = b then x else y) = some r) : (¬ a = b∧(a == b) = false∧(a != b) = true∧y = some r) ∨ (a = b∧(a == b) = true∧(a != b) = false∧x = some r) :=
  (gI h).imp (fun h=>⟨h.1,beq_eq_false_iff_ne.mpr h.1,bne_iff_ne.mpr h.1,h.2⟩) (fun h=>⟨h.1,beq_iff_eq.mpr h.1,bne_eq_false_iff_eq.mpr h.1,h.2⟩)
theorem gB {t : Bool} (h : (if t = true then x else y) = some r) : (t = true∧x = some r) ∨ (t = false∧y = some r):=by
  cases t
  · exact .inr ⟨rfl,h⟩
  · exact .inl ⟨rfl,h⟩
theorem oD (h : decide P = true:=by first | (with_reducible assumption) | assumption) : P:=of_decide_eq_true h
end
section
variable {α β : Type} {r : α}
theorem bO {x : Option β} {f : β → Option α} (h : x.bind f = some r) : ∃ a,aa (x = some a)∧f a = some r:=by
  obtain ⟨a,h1,h2⟩:=Option.bind_eq_some_iff.mp h
  exact ⟨a,⟨h1⟩,h2⟩
theorem bS {e : β} {f : β → Option α} (h : (some e).bind f = some r) : ∃ y,aa (y = e)∧f y = some r:=⟨e,⟨rfl⟩,h⟩
theorem eY (e : β) : ∃ y,aa (y = e):=⟨e,⟨rfl⟩⟩
end
/-! ### iZ: function 95 -/
def iZ.f (a0 : Int) (iR : (Int → Option Bool)) : Option (Bool):=(iR a0).bind fun ar2=>(some (!ar2))
theorem iZ.calls (a0 : Int) (gc1 : Nat) (aaO : Value) (iR : (Int → Option Bool)) (r : Bool) (w : World) (hb1 : w.heap[gc1]? = some (.cells #[aaO] 45 (0,0))) (E8 : FnI Tryz.prog w aaO iR) (H : iZ.f a0 iR = some r) :
  Calls Tryz.prog 95 #[.int .i64 a0,.pointer (some ⟨gc1,0,none⟩)] w fun e w'=>e = .returned (.bool r)∧Below w.heap.size w w':=by
 obtain ⟨SI,aaP,aaQ,rfl,J6,E8⟩:=E8;have J6 : ∀ (args_ : Array Value) (w_ : World),(callFunc SI args_).run Tryz.prog w_ = .ok (.enter SI args_) w_:=J6;have aaR:=zA E8;clear E8;have BK1:=zA hb1;clear hb1;have HB:=zA (Below.refl w.heap.size w);unfold iZ.f at H;replace H:=bO H;obtain ⟨ar2,A3,H⟩:=H;obtain rfl:=Option.some.inj H;have MM:=bc BK1 0;have MN:=bf BK1 0;go_enter Tryz.func95,Tryz.ntmps95;go_wp2_with (first | (go_at_fn SI;refine cz (args':=aaP ++ #[.int .i64 a0] ++ aaQ) (by simp) ?_;refine (aaR.out a0 _ A3.out _ (uH HB.out)).mono ?_;rintro e w5 ⟨rfl,hb⟩;replace BK1:=xB BK1 hb;replace HB:=xH HB hb;(try clear hb)));go_ret;exact ⟨eX,uH HB.out⟩
/-! ### jm: function 81 -/
def jm.f (l0 : List Int) (iR : (List Int → Option Bool)) : Option (Bool):=(iR l0).bind fun ar3=>(some (!ar3))
theorem jm.calls (A0 : Option Addr) (c0 : Nat) (l0 : List Int) (gc1 : Nat) (aaO : Value) (iR : (List Int → Option Bool)) (r : Bool) (w : World) (hr0 : Kd.C (Kd.int .i64) w A0 l0.length l0) (hc0 : l0.length ≤ c0) (hb1 : w.heap[gc1]? = some (.cells #[aaO] 87 (0,0))) (E8 : FnL Tryz.prog w aaO iR) (H : jm.f l0 iR = some r) :
  Calls Tryz.prog 81 #[.slice A0 l0.length c0,.pointer (some ⟨gc1,0,none⟩)] w fun e w'=>e = .returned (.bool r)∧Below w.heap.size w w':=by
 have HR0:=zA hr0;have HC0:=zA hc0;clear hr0 hc0;obtain ⟨SI,aaP,aaQ,rfl,J6,E8⟩:=E8;have J6 : ∀ (args_ : Array Value) (w_ : World),(callFunc SI args_).run Tryz.prog w_ = .ok (.enter SI args_) w_:=J6;have aaR:=zA E8;clear E8;have BK1:=zA hb1;clear hb1;have HB:=zA (Below.refl w.heap.size w);unfold jm.f at H;replace H:=bO H;obtain ⟨ar3,A3,H⟩:=H;obtain rfl:=Option.some.inj H;have MM:=bc BK1 0;have MN:=bf BK1 0;go_enter Tryz.func81,Tryz.ntmps81;go_wp2_with (first | (go_at_fn SI;refine cz (args':=aaP ++ #[.slice A0 l0.length c0] ++ aaQ) (by simp) ?_;refine (aaR.out l0 _ _ _ A3.out _ (uH HB.out) (by exact uC HR0.out) (by exact HC0.out)).mono ?_;rintro e w5 ⟨rfl,hb⟩;replace BK1:=xB BK1 hb;replace HB:=xH HB hb;(try clear hb)));go_ret;exact ⟨eX,uH HB.out⟩
/-! ### pJ: function 33 -/
def pJ.f (l0 : List Int) : Option (Int):=(fO.f l0).bind fun akq=>(some (wrap64 (akq - 1)))
theorem pJ.calls (A0 : Option Addr) (c0 : Nat) (l0 : List Int) (r : Int) (w : World) (hr0 : Kd.C (Kd.int .i64) w A0 l0.length l0) (hc0 : l0.length ≤ c0) (H : pJ.f l0 = some r) :
  Calls Tryz.prog 33 #[.slice A0 l0.length c0] w fun e w'=>e = .returned (.int .i64 r)∧aQ w w':=by
 have HR0:=zA hr0;have HC0:=zA hc0;clear hr0 hc0;unfold pJ.f at H;replace H:=bO H;obtain ⟨akq,A2,H⟩:=H;obtain rfl:=Option.some.inj H;go_enter Tryz.func33,Tryz.ntmps33;go_wp2_with (first | ((with_reducible refine ae (f:=47) rfl ?_);refine gL (some 4) Tryz.func47 #[.slice A0 l0.length c0] ?_;(with_reducible refine (fO.calls _ _ l0 akq _ ?side1 ?side2 A2.out).mono ?_);(case side1=>exact uC HR0.out);(case side2=>exact HC0.out);rintro e w' ⟨rfl,⟨nd,rfl⟩⟩;refine ⟨_,rfl,?_⟩));go_ret;exact ⟨by first | rfl | (simp;done) | (simp [*];done),by repeat (first | exact aQ.refl _ | apply aQ.step)⟩
/-! ### jT: function 32 -/
def jT.f (KS : List Int) (iR : Int) : Option (Bool):=(pJ.f KS).bind fun aaS=>(some (decide (aaS ≤ iR)))
theorem jT.calls (gc0 : Nat) (ar4 : Option Addr) (ar5 : Nat) (KS : List Int) (gc1 : Nat) (iR : Int) (r : Bool) (w : World) (hb0 : w.heap[gc0]? = some (.cells #[.slice ar4 KS.length ar5] 24 (0,0))) (hr0_0 : Kd.C (Kd.int .i64) w ar4 KS.length KS) (ahH : KS.length ≤ ar5) (hb1 : w.heap[gc1]? = some (.cells #[.int .i64 iR] 2 (0,0))) (H : jT.f KS iR = some r) :
  Calls Tryz.prog 32 #[.pointer (some ⟨gc0,0,none⟩),.pointer (some ⟨gc1,0,none⟩)] w fun e w'=>e = .returned (.bool r)∧aQ w w':=by
 have aaT:=zA hr0_0;have aaU:=zA ahH;clear hr0_0 ahH;have BK0:=zA hb0;clear hb0;have BK1:=zA hb1;clear hb1;unfold jT.f at H;replace H:=bO H;obtain ⟨aaS,A3,H⟩:=H;obtain rfl:=Option.some.inj H;have MM:=bc BK0 0;have MN:=bf BK0 0;go_enter Tryz.func32,Tryz.ntmps32;go_wp2_with (first | (go_at_call 33;(with_reducible refine (pJ.calls _ _ KS aaS _ ?side1 ?side2 A3.out).mono ?_);(case side1=>exact uC aaT.out);(case side2=>exact aaU.out);rintro e w' ⟨rfl,⟨nd,rfl⟩⟩;(try first | exact ⟨rfl,_,World.drewN_drewN _ _ _⟩ | exact ⟨rfl,_,Eq.trans (World.drewN_drewN _ _ _) (congrArg (World.drewN _) (Nat.add_assoc _ _ _))⟩);have JX:=bc BK1 0;have JY:=bf BK1 0));(repeat (go_quiet (first | (go_at_call 33;(with_reducible refine (pJ.calls _ _ KS aaS _ ?side1 ?side2 A3.out).mono ?_);(case side1=>exact uC aaT.out);(case side2=>exact aaU.out);rintro e w' ⟨rfl,⟨nd,rfl⟩⟩;(try first | exact ⟨rfl,_,World.drewN_drewN _ _ _⟩ | exact ⟨rfl,_,Eq.trans (World.drewN_drewN _ _ _) (congrArg (World.drewN _) (Nat.add_assoc _ _ _))⟩);have JX:=bc BK1 0;have JY:=bf BK1 0));try go_wp2_with (first | (go_at_call 33;(with_reducible refine (pJ.calls _ _ KS aaS _ ?side1 ?side2 A3.out).mono ?_);(case side1=>exact uC aaT.out);(case side2=>exact aaU.out);rintro e w' ⟨rfl,⟨nd,rfl⟩⟩;(try first | exact ⟨rfl,_,World.drewN_drewN _ _ _⟩ | exact ⟨rfl,_,Eq.trans (World.drewN_drewN _ _ _) (congrArg (World.drewN _) (Nat.add_assoc _ _ _))⟩);have JX:=bc BK1 0;have JY:=bf BK1 0))));go_ret;exact ⟨by first | rfl | (simp;done) | (simp [*];done),by repeat (first | exact aQ.refl _ | apply aQ.step)⟩
/-! ### gK: function 104 -/
def gK.f (l0 : List Int) (iR : Int) : Option (Bool):=if 0 ≤ iR then (if iR < (l0.length : Int) then (some ((rd l0 iR) != 0)) else (none)) else (none)
theorem gK.calls (A0 : Option Addr) (c0 : Nat) (l0 : List Int) (gc1 : Nat) (iR : Int) (r : Bool) (w : World) (hr0 : Kd.C (Kd.int .i64) w A0 l0.length l0) (hc0 : l0.length ≤ c0) (hb1 : w.heap[gc1]? = some (.cells #[.int .i64 iR] 3 (0,0))) (H : gK.f l0 iR = some r) :
  Calls Tryz.prog 104 #[.slice A0 l0.length c0,.pointer (some ⟨gc1,0,none⟩)] w fun e w'=>e = .returned (.bool r)∧aQ w w':=by
 have HR0:=zA hr0;have HC0:=zA hc0;clear hr0 hc0;have BK1:=zA hb1;clear hb1;unfold gK.f at H;replace H:=gD H;obtain ⟨vE,H⟩:=H;replace H:=gD H;obtain ⟨qO,H⟩:=H;obtain rfl:=Option.some.inj H;have JX:=bc BK1 0;have JY:=bf BK1 0;have akr : 0 ≤ (iR : Int):=oD;have aks : iR < (l0.length : Int):=oD;obtain ⟨aDP,aAq,axa⟩:=Kd.ik HR0.out iR akr aks;cases aAq;replace akr:=eq_true akr;replace aks:=eq_true aks;go_enter Tryz.func104,Tryz.ntmps104;go_wp2;go_ret;exact ⟨by first | rfl | (simp;done) | (simp [*];done),by repeat (first | exact aQ.refl _ | apply aQ.step)⟩
/-! ### dK: function 22 -/
def dK.f (a0 : Int) (a1 : Int) : Option (Bool):=if a1 ≥ 0 then (some (decide (a1 < a0))) else (some false)
theorem dK.calls (a0 : Int) (a1 : Int) (r : Bool) (w : World) (H : dK.f a0 a1 = some r) :
  Calls Tryz.prog 22 #[.int .i64 a0,.int .i64 a1] w fun e w'=>e = .returned (.bool r)∧aQ w w':=by
 unfold dK.f at H;replace H:=gI H;obtain ⟨c3,H⟩|⟨c3,H⟩:=H
 ·have vE : decide (0 ≤ a1) = false:=decide_eq_false c3;clear c3;obtain rfl:=Option.some.inj H;go_enter Tryz.func22,Tryz.ntmps22;go_wp2;go_ret;exact ⟨by first | rfl | (simp;done) | (simp [*];done),by repeat (first | exact aQ.refl _ | apply aQ.step)⟩
 have vE : decide (0 ≤ a1) = true:=decide_eq_true c3;clear c3;obtain rfl:=Option.some.inj H;go_enter Tryz.func22,Tryz.ntmps22;go_wp2;go_ret;exact ⟨by first | rfl | (simp;done) | (simp [*];done),by repeat (first | exact aQ.refl _ | apply aQ.step)⟩
/-! ### mh: function 41 -/
def mh.f (au : Int) (iR : Int) : Option (Bool):=(dK.f au iR).bind fun akt=>(some akt)
theorem mh.calls (gc0 : Nat) (au : Int) (gc1 : Nat) (iR : Int) (r : Bool) (w : World) (hb0 : w.heap[gc0]? = some (.cells #[.int .i64 au] 2 (0,0))) (hb1 : w.heap[gc1]? = some (.cells #[.int .i64 iR] 2 (0,0))) (H : mh.f au iR = some r) :
  Calls Tryz.prog 41 #[.pointer (some ⟨gc0,0,none⟩),.pointer (some ⟨gc1,0,none⟩)] w fun e w'=>e = .returned (.bool r)∧aQ w w':=by
 have BK0:=zA hb0;clear hb0;have BK1:=zA hb1;clear hb1;unfold mh.f at H;replace H:=bO H;obtain ⟨akt,A3,H⟩:=H;obtain rfl:=Option.some.inj H;have MM:=bc BK0 0;have MN:=bf BK0 0;have JX:=bc BK1 0;have JY:=bf BK1 0;go_enter Tryz.func41,Tryz.ntmps41;go_wp2_with (first | ((with_reducible refine ae (f:=22) rfl ?_);refine gL (some 5) Tryz.func22 #[.int .i64 au,.int .i64 iR] ?_;(with_reducible refine (dK.calls au iR akt _ A3.out).mono ?_);rintro e w' ⟨rfl,⟨nd,rfl⟩⟩;refine ⟨_,rfl,?_⟩));go_ret;exact ⟨by first | rfl | (simp;done) | (simp [*];done),by repeat (first | exact aQ.refl _ | apply aQ.step)⟩
/-! ### dX: function 54 -/
def dX.f (a0 : Int) (a1 : Int) : Option (Int):=if a0 = 0 then (none) else (some (Int.tmod (wrap64 ((Int.tmod a1 a0) + a0)) a0))
theorem dX.calls (a0 : Int) (a1 : Int) (r : Int) (w : World) (H : dX.f a0 a1 = some r) :
  Calls Tryz.prog 54 #[.int .i64 a0,.int .i64 a1] w fun e w'=>e = .returned (.int .i64 r)∧aQ w w':=by
 unfold dX.f at H;replace H:=gI H;obtain ⟨c3,H⟩|⟨c3,H⟩:=H
 ·have vE : (a0 == 0) = false:=beq_eq_false_iff_ne.mpr c3;have Po : (a0 != 0) = true:=bne_iff_ne.mpr c3;obtain rfl:=Option.some.inj H;go_enter Tryz.func54,Tryz.ntmps54;go_wp2;go_ret;exact ⟨by first | rfl | (simp;done) | (simp [*];done),by repeat (first | exact aQ.refl _ | apply aQ.step)⟩
 exact absurd H (by simp)
/-! ### iX: function 85 -/
def iX.f (a0 : Int) (a1 : Int) (a2 : Int) : Option (Int):=(dX.f a0 (wrap64 (a1 * a2))).bind fun aku=>(some aku)
theorem iX.calls (a0 : Int) (a1 : Int) (a2 : Int) (r : Int) (w : World) (H : iX.f a0 a1 a2 = some r) :
  Calls Tryz.prog 85 #[.int .i64 a0,.int .i64 a1,.int .i64 a2] w fun e w'=>e = .returned (.int .i64 r)∧aQ w w':=by
 unfold iX.f at H;replace H:=bO H;obtain ⟨aku,A4,H⟩:=H;obtain rfl:=Option.some.inj H;go_enter Tryz.func85,Tryz.ntmps85;go_wp2_with (first | ((with_reducible refine ae (f:=54) rfl ?_);refine gL (some 11) Tryz.func54 #[.int .i64 a0,.int .i64 (wrap64 (a1 * a2))] ?_;(with_reducible refine (dX.calls a0 (wrap64 (a1 * a2)) aku _ A4.out).mono ?_);rintro e w' ⟨rfl,⟨nd,rfl⟩⟩;refine ⟨_,rfl,?_⟩));go_ret;exact ⟨by first | rfl | (simp;done) | (simp [*];done),by repeat (first | exact aQ.refl _ | apply aQ.step)⟩
/-! ### fw: function 97 -/
def fw.l0 : Nat → Int → Int → Int → Int → Option (Int)
 | 0,_,_,_,_=>none
 | k + 1,x0,x1,x2,x7=>if x2 > 0 then (if (Int.tmod x2 2) = 1 then ((iX.f x0 x7 x1).bind fun ae9=>((iX.f x0 x1 x1).bind fun afa=>(fw.l0 k x0 afa (wrap64 (Int.tdiv x2 2)) ae9))) else ((iX.f x0 x1 x1).bind fun afb=>(fw.l0 k x0 afb (wrap64 (Int.tdiv x2 2)) x7))) else (some x7)
def fw.f (k : Nat) (a0 : Int) (a1 : Int) (a2 : Int) : Option (Int):=(dX.f a0 1).bind fun afc=>(fw.l0 k a0 a1 a2 afc)
theorem fw.calls (k : Nat) (a0 : Int) (a1 : Int) (a2 : Int) (r : Int) (w : World) (H : fw.f k a0 a1 a2 = some r) :
  Calls Tryz.prog 97 #[.int .i64 a0,.int .i64 a1,.int .i64 a2] w fun e w'=>e = .returned (.int .i64 r)∧aQ w w':=by
 unfold fw.f at H;replace H:=bO H;obtain ⟨afc,A4,H⟩:=H;have H':=zA H;clear H;go_enter Tryz.func97,Tryz.ntmps97;go_wp2_with (first | ((with_reducible refine ae (f:=54) rfl ?_);refine gL (some 9) Tryz.func54 #[.int .i64 a0,.int .i64 1] ?_;(with_reducible refine (dX.calls a0 1 afc _ A4.out).mono ?_);rintro e w' ⟨rfl,⟨nd,rfl⟩⟩;refine ⟨_,rfl,?_⟩));go_loopg [1,2,7] k (fun kq v1 v2 v7 w'=>∃ (Gb : Int) (xm : Int) (lF : Int),v1 = .int .i64 Gb∧v2 = .int .i64 xm∧v7 = .int .i64 lF∧aa (fw.l0 kq a0 Gb xm lF = some r)∧aa (kq ≤ k)∧aQ w w');(case atStart=>exact ⟨(a1),(a2),(afc),eS,eS,eS,H',⟨Nat.le_refl _⟩,by repeat (first | exact aQ.refl _ | apply aQ.step)⟩)
 case round =>
  clear H';(try clear p2);obtain ⟨Gb,xm,lF,rfl,rfl,rfl,HA,HK1,⟨m1,rfl⟩⟩:=hrel
  cases gk with
  | zero=>exact absurd HA.out (by simp [fw.l0])
  | succ k1 =>
   have H:=HA.out;clear HA;simp only [fw.l0] at H;replace H:=gI H;obtain ⟨c5,H⟩|⟨c5,H⟩:=H
   ·have ny : decide (0 < xm) = false:=decide_eq_false c5;clear c5;obtain rfl:=Option.some.inj H;go_wp2;go_ret;exact ⟨by first | rfl | (simp;done) | (simp [*];done),by repeat (first | exact aQ.refl _ | apply aQ.step)⟩
   have ny : decide (0 < xm) = true:=decide_eq_true c5;clear c5;replace H:=gE H;obtain ⟨c6,qo,vW,H⟩|⟨c6,qo,vW,H⟩:=H
   ·replace H:=bO H;obtain ⟨afb,A9,H⟩:=H;have H':=zA H;clear H;go_wp2_with (first | ((with_reducible refine ae (f:=85) rfl ?_);refine gL (some 24) Tryz.func85 #[.int .i64 a0,.int .i64 Gb,.int .i64 Gb] ?_;(with_reducible refine (iX.calls a0 Gb Gb afb _ A9.out).mono ?_);rintro e w' ⟨rfl,⟨nd,rfl⟩⟩;refine ⟨_,rfl,?_⟩));go_roundg k1;(case measure=>have:=HK1.out;omega);(case rel=>exact ⟨(afb),(wrap64 (Int.tdiv xm 2)),(lF),eS,eS,eS,H',⟨by have:=HK1.out;omega⟩,by repeat (first | exact aQ.refl _ | apply aQ.step)⟩)
   clear c6;replace H:=bO H;obtain ⟨ae9,A7,H⟩:=H;replace H:=bO H;obtain ⟨afa,A8,H⟩:=H;have H':=zA H;clear H;go_wp2_with (first | ((with_reducible refine ae (f:=85) rfl ?_);refine gL (some 20) Tryz.func85 #[.int .i64 a0,.int .i64 lF,.int .i64 Gb] ?_;(with_reducible refine (iX.calls a0 lF Gb ae9 _ A7.out).mono ?_);rintro e w' ⟨rfl,⟨nd,rfl⟩⟩;refine ⟨_,rfl,?_⟩) | ((with_reducible refine ae (f:=85) rfl ?_);refine gL (some 24) Tryz.func85 #[.int .i64 a0,.int .i64 Gb,.int .i64 Gb] ?_;(with_reducible refine (iX.calls a0 Gb Gb afa _ A8.out).mono ?_);rintro e w' ⟨rfl,⟨nd,rfl⟩⟩;refine ⟨_,rfl,?_⟩));go_roundg k1;(case measure=>have:=HK1.out;omega);(case rel=>exact ⟨(afa),(wrap64 (Int.tdiv xm 2)),(ae9),eS,eS,eS,H',⟨by have:=HK1.out;omega⟩,by repeat (first | exact aQ.refl _ | apply aQ.step)⟩)
/-! ### kR: function 86 -/
def kR.f (k : Nat) (a0 : Int) (a1 : Int) : Option (Int):=(fw.f k a0 a1 (wrap64 (a0 - 2))).bind fun akv=>(some akv)
theorem kR.calls (k : Nat) (a0 : Int) (a1 : Int) (r : Int) (w : World) (H : kR.f k a0 a1 = some r) :
  Calls Tryz.prog 86 #[.int .i64 a0,.int .i64 a1] w fun e w'=>e = .returned (.int .i64 r)∧aQ w w':=by
 unfold kR.f at H;replace H:=bO H;obtain ⟨akv,A3,H⟩:=H;obtain rfl:=Option.some.inj H;go_enter Tryz.func86,Tryz.ntmps86;go_wp2_with (first | ((with_reducible refine ae (f:=97) rfl ?_);refine gL (some 9) Tryz.func97 #[.int .i64 a0,.int .i64 a1,.int .i64 (wrap64 (a0 - 2))] ?_;(with_reducible refine (fw.calls k a0 a1 (wrap64 (a0 - 2)) akv _ A3.out).mono ?_);rintro e w' ⟨rfl,⟨nd,rfl⟩⟩;refine ⟨_,rfl,?_⟩));go_ret;exact ⟨by first | rfl | (simp;done) | (simp [*];done),by repeat (first | exact aQ.refl _ | apply aQ.step)⟩
/-! ### je: function 70 -/
def je.f (k : Nat) (a0 : Int) (a1 : Int) (a2 : Int) : Option (Int):=(kR.f k a0 a2).bind fun aaV=>((iX.f a0 a1 aaV).bind fun akw=>(some akw))
theorem je.calls (k : Nat) (a0 : Int) (a1 : Int) (a2 : Int) (r : Int) (w : World) (H : je.f k a0 a1 a2 = some r) :
  Calls Tryz.prog 70 #[.int .i64 a0,.int .i64 a1,.int .i64 a2] w fun e w'=>e = .returned (.int .i64 r)∧aQ w w':=by
 unfold je.f at H;replace H:=bO H;obtain ⟨aaV,A4,H⟩:=H;replace H:=bO H;obtain ⟨akw,A5,H⟩:=H;obtain rfl:=Option.some.inj H;go_enter Tryz.func70,Tryz.ntmps70;go_wp2_with (first | ((with_reducible refine ae (f:=86) rfl ?_);refine gL (some 11) Tryz.func86 #[.int .i64 a0,.int .i64 a2] ?_;(with_reducible refine (kR.calls k a0 a2 aaV _ A4.out).mono ?_);rintro e w' ⟨rfl,⟨nd,rfl⟩⟩;refine ⟨_,rfl,?_⟩) | ((with_reducible refine ae (f:=85) rfl ?_);refine gL (some 12) Tryz.func85 #[.int .i64 a0,.int .i64 a1,.int .i64 aaV] ?_;(with_reducible refine (iX.calls a0 a1 aaV akw _ A5.out).mono ?_);rintro e w' ⟨rfl,⟨nd,rfl⟩⟩;refine ⟨_,rfl,?_⟩));go_ret;exact ⟨by first | rfl | (simp;done) | (simp [*];done),by repeat (first | exact aQ.refl _ | apply aQ.step)⟩
/-! ### iT: function 62 -/
def iT.l0 : Nat → List Int → Option (List Int)
 | 0,_=>none
 | k + 1,x0=>if (x0.length : Int) > 0 then (if 0 ≤ (wrap64 ((x0.length : Int) - 1)) then (if (wrap64 ((x0.length : Int) - 1)) < (x0.length : Int) then (if (rd x0 (wrap64 ((x0.length : Int) - 1))) = 0 then (if (wrap64 ((x0.length : Int) - 1)) ≤ (x0.length : Int) then (iT.l0 k (x0.take ((wrap64 ((x0.length : Int) - 1)) : Int).toNat)) else (none)) else (some x0)) else (none)) else (none)) else (some x0)
def iT.f (k : Nat) (l0 : List Int) : Option (List Int):=iT.l0 k l0
theorem iT.calls (k : Nat) (P0_ : Nat → Prop) (DY : Value) (l0 : List Int) (r : List Int) (w0 w : World) (hB : Below w0.heap.size w0 w) (ho0 : Kd.R (Kd.int .i64) 2 w w0.heap.size P0_ DY l0) (H : iT.f k l0 = some r) :
  Calls Tryz.prog 62 #[DY] w fun e w'=>∃ v0_ : Value,e = .returned (v0_)∧Kd.R (Kd.int .i64) 2 w' w0.heap.size (fun k_=>(P0_ k_ ∨ w.heap.size ≤ k_)) v0_ r∧Below w0.heap.size w0 w'∧Kept w w' (fun k_=>P0_ k_):=by
 have HO0:=zA (show Kd.R (Kd.int .i64) 2 w w0.heap.size (fun k_=>(P0_ k_ ∨ w.heap.size ≤ k_)) DY l0 from Kd.ag ho0 (fun k_ hk=>(.inl hk)));have HK:=zA (Kept.refl w (fun k_=>P0_ k_));have HW0:=zA hB.size;have HB:=zA hB;clear hB;unfold iT.f at H;have H':=zA H;clear H;go_enter Tryz.func62,Tryz.ntmps62;go_wp2;go_loopg [0] k (fun kq v0 w'=>∃ (DZ : List Int),aa (iT.l0 kq DZ = some r)∧aa (kq ≤ k)∧aa (Kd.R (Kd.int .i64) 2 w' w0.heap.size (fun k_=>(P0_ k_ ∨ w.heap.size ≤ k_)) v0 DZ)∧aa (Kept w w' (fun k_=>P0_ k_))∧aa (Below w0.heap.size w0 w'));(case atStart=>exact ⟨(l0),H',⟨Nat.le_refl _⟩,⟨uR HO0.out⟩,⟨by repeat (first | (with_reducible first | exact HK.out | apply Kept.alloc | apply Kept.drewN | apply Kept.drew) | exact HK.out)⟩,⟨uH HB.out⟩⟩)
 case round =>
  clear H';obtain ⟨DZ,HA,HK1,KT,HK,HB⟩:=hrel
  cases gk with
  | zero=>exact absurd HA.out (by simp [iT.l0])
  | succ k1 =>
   have H:=HA.out;clear HA;simp only [iT.l0] at H;replace H:=gI H;obtain ⟨c2,H⟩|⟨c2,H⟩:=H
   ·have akx : decide (0 < (DZ.length : Int)) = false:=decide_eq_false c2;have aAr : decide (0 < DZ.length) = false:=decide_eq_false (by omega);clear c2;obtain rfl:=Option.some.inj H;obtain ⟨o6,o7,rfl⟩:=Kd.aV KT.out;go_wp2;go_ret;exact ⟨_,eX,uR KT.out,uH HB.out,by repeat (first | (with_reducible first | exact HK.out | apply Kept.alloc | apply Kept.drewN | apply Kept.drew) | exact HK.out)⟩
   have akx : decide (0 < (DZ.length : Int)) = true:=decide_eq_true c2;have aAr : decide (0 < DZ.length) = true:=decide_eq_true (by omega);clear c2;obtain ⟨ji3,KU⟩ : ∃ j_ : Int,(wrap64 ((DZ.length : Int) - 1)) = j_:=⟨_,rfl⟩;(first | rw [KU] at H | simp only [KU] at H);have ar6 : (IntKind.i64.wrap ((DZ.length : Int) - 1)) = ji3:=(iI _).trans KU;replace H:=gD H;obtain ⟨qO,H⟩:=H;replace H:=gD H;obtain ⟨ny,H⟩:=H;replace H:=gE H;obtain ⟨c6,qo,vW,H⟩|⟨c6,qo,vW,H⟩:=H
   ·obtain rfl:=Option.some.inj H;obtain ⟨vH,vw,rfl⟩:=Kd.aV KT.out;have SK : 0 ≤ ((ji3) : Int):=oD;have SL : (ji3) < (DZ.length : Int):=oD;obtain ⟨ahI,aky,afd⟩:=Kd.ik (Kd.aC KT.out).2.2 (ji3) SK SL;cases aky;replace SK:=eq_true SK;replace SL:=eq_true SL;go_wp2;go_ret;exact ⟨_,by first | rfl | (simp [eP,eQ] <;> rfl) | (simp only [← KU];first | rfl | (simp [eP,eQ] <;> rfl)) | (simp [*,eP,eQ] <;> rfl),uR KT.out,uH HB.out,by repeat (first | (with_reducible first | exact HK.out | apply Kept.alloc | apply Kept.drewN | apply Kept.drew) | exact HK.out)⟩
   clear c6;replace H:=gN H;obtain ⟨c7,H⟩:=H;have yQ:=eq_true c7;have Bb : decide ((ji3) ≤ (DZ.length : Int)) = true:=decide_eq_true c7;clear c7;obtain ⟨ar7,aaW⟩:=eY (DZ.take ((ji3) : Int).toNat : List Int);(try rw [←aaW.out] at H);have H':=zA H;clear H;obtain ⟨Ao8,co8,rfl⟩:=Kd.aV KT.out;have SK : 0 ≤ ((ji3) : Int):=oD;have SL : (ji3) < (DZ.length : Int):=oD;obtain ⟨ahI,aky,afd⟩:=Kd.ik (Kd.aC KT.out).2.2 (ji3) SK SL;cases aky;replace SK:=eq_true SK;replace SL:=eq_true SL;have q9 : ((ji3) : Int) ≤ ((DZ.length : Int) : Int):=oD;obtain ⟨i09,ar8,_,aAs,_⟩:=info_parts l6;have ar9:=aj3 (P:=Tryz.prog) 24 2 .i64 Tryz.underlying24 ar8 (some ahI) DZ.length co8 (ji3) (of_decide_eq_true (by first | (with_reducible assumption) | assumption)) q9 (Kd.aC KT.out).2.1;have hr9:=Kd.Sy (m:=((ji3) : Int).toNat) KT.out (by omega);have hy9 : ar7.length = ((ji3) : Int).toNat:=(by rw [aaW.out,List.length_take];omega);rw [← aaW.out] at hr9;rw [← hy9] at hr9 ar9;clear hy9 ar8 aAs KT;have asa:=zA hr9;clear hr9;replace q9:=eq_true q9;go_wp2;go_roundg k1;(case measure=>have:=HK1.out;omega);(case rel=>exact ⟨(ar7),H',⟨by have:=HK1.out;omega⟩,⟨uR asa.out⟩,⟨by repeat (first | (with_reducible first | exact HK.out | apply Kept.alloc | apply Kept.drewN | apply Kept.drew) | exact HK.out)⟩,⟨uH HB.out⟩⟩)
/-! ### gT: function 87 -/
def gT.l0 : Nat → Int → Int → List Int → List Int → Int → Int → Option (List Int)
 | 0,_,_,_,_,_,_=>none
 | k + 1,x0,x3,x9,x21,x22,x23=>if x23 < x22 then (if 0 ≤ x23 then (if x23 < (x21.length : Int) then (if x23 < (x9.length : Int) then ((dX.f x0 (wrap64 ((rd x9 x23) + (wrap64 (x3 * (rd x21 x23)))))).bind fun XB=>(gT.l0 k x0 x3 (x9.set (x23 : Int).toNat XB) x21 x22 (wrap64 (x23 + 1)))) else (none)) else (none)) else (none)) else ((iT.f k x9).bind fun akz=>(some akz))
def gT.f (k : Nat) (a0 : Int) (l1 : List Int) (l2 : List Int) (a3 : Int) : Option (List Int):=if 0 ≤ (mx (l1.length : Int) (l2.length : Int)) then (if (mx (l1.length : Int) (l2.length : Int) : Int).toNat ≤ 35184372088832 then (gT.l0 k a0 a3 (cpy (List.replicate (mx (l1.length : Int) (l2.length : Int) : Int).toNat 0) l1) l2 (l2.length : Int) 0) else (none)) else (none)
theorem gT.calls (k : Nat) (a0 : Int) (A1 : Option Addr) (c1 : Nat) (l1 : List Int) (A2 : Option Addr) (c2 : Nat) (l2 : List Int) (a3 : Int) (r : List Int) (w : World) (hr1 : Kd.C (Kd.int .i64) w A1 l1.length l1) (hc1 : l1.length ≤ c1) (hr2 : Kd.C (Kd.int .i64) w A2 l2.length l2) (hc2 : l2.length ≤ c2) (H : gT.f k a0 l1 l2 a3 = some r) :
  Calls Tryz.prog 87 #[.int .i64 a0,.slice A1 l1.length c1,.slice A2 l2.length c2,.int .i64 a3] w fun e w'=>∃ v0_ : Value,e = .returned (v0_)∧Kd.R (Kd.int .i64) 2 w' w.heap.size (fun _=>True) v0_ r∧Below w.heap.size w w':=by
 have HR1:=zA hr1;have HC1:=zA hc1;clear hr1 hc1;have HR2:=zA hr2;have HC2:=zA hc2;clear hr2 hc2;have HB:=zA (Below.refl w.heap.size w);unfold gT.f at H;obtain ⟨ji5,tT⟩ : ∃ j_ : Int,(mx (l1.length : Int) (l2.length : Int)) = j_:=⟨_,rfl⟩;(first | rw [tT] at H | simp only [tT] at H);(try (have asb : 0 ≤ ji5:=by (rw [← tT];unfold mx;(repeat' split) <;> omega)));(try (have asc : 0 ≤ ji5:=by omega));have Qn : (if (l1.length : Int) < (l2.length : Int) then (l2.length : Int) else (l1.length : Int)) = ji5:=tT;(try (have ase : (if l1.length < l2.length then (l2.length : Int) else (l1.length : Int)) = ji5:=by have h_:=Qn;simpa only [Int.ofNat_lt] using h_));replace H:=gN H;obtain ⟨c6,H⟩:=H;have qo:=eq_true c6;have vW : decide (0 ≤ (ji5)) = true:=decide_eq_true c6;clear c6;replace H:=gN H;obtain ⟨c7,H⟩:=H;have yQ:=eq_true c7;have Bb : decide ((ji5 : Int).toNat ≤ 35184372088832) = true:=decide_eq_true c7;clear c7;obtain ⟨asf,aaX⟩:=eY (List.replicate (ji5 : Int).toNat 0 : List Int);(try rw [←aaX.out] at H);obtain ⟨aAt,ahJ⟩:=eY (cpy asf l1 : List Int);(try rw [←ahJ.out] at H);have H':=zA H;clear H;go_enter Tryz.func87,Tryz.ntmps87;go_wp2_with (first | ((with_reducible refine bP (N:=17) rfl ?_);refine Kd.Oh (Kd.int .i64) _ 2 rfl (N:=17) rfl 24 _ _ rfl ji5 rfl rfl Tryz.underlying24 (.int .i64 0) 8 l6 rfl (by decide) (by omega) 0 (ok:=fun _=>True) (okp:=fun _=>True) rfl (fun _ hk=>hk) trivial (of_decide_eq_true (by first | (with_reducible assumption) | assumption)) (Nat.le_trans (Nat.mul_le_mul_right _ (of_decide_eq_true (by first | (with_reducible assumption) | assumption) : ji5.toNat ≤ 35184372088832)) (by omega)) (Below.refl _ _) (Nat.le_refl _) ?_;intro asg w8 ho9 hb hg_ hnew_;clear hg_ hnew_;(first | rw [← aaX.out] at ho9 | (simp only [Int.reduceToNat] at ho9;rw [← aaX.out] at ho9));have ahK:=zA (Kd.bu ho9 (af (uH HB.out)));replace HB:=xH HB hb;clear hb ho9) | ((with_reducible refine fe (b:=.copy) (xs:=#[.tmp 18,.tmp 19]) rfl ?_);skip;refine SG (k:=.i64) (w0:=w) w.heap.size ?g1 (.tmp 18) (.tmp 19) 24 24 2 ?g2 ?g3 (.int .i64 0) 8 ?g4 asg asf l1 ?g5 ?g6 ?g7 (fun _=>True) ?g8 ?g9 ?aO ?aR ?aB ?aS ?_;(case g1=>rfl);(case g2=>rfl);(case g3=>exact Tryz.underlying24);(case g4=>exact l6);(case g8=>rfl);(case g9=>rfl);(case aR=>exact uC ((Kd.aM HR1.out HB.out)));(case aB=>exact (uH HB.out));(case aO=>exact (uR ahK.out));(case aS=>exact (af (uH HB.out)));skip;intro w10 ho hb hg hat;rw [← ahJ.out] at ho;replace HB:=zA (hb);have ash:=zA (ho);clear ahK ho hb hg hat));go_loopg [23] k (fun kq v23 w'=>∃ (oC : List Int) (tq : Int),v23 = .int .i64 tq∧aa (gT.l0 kq a0 a3 oC l2 (l2.length : Int) tq = some r)∧aa (kq ≤ k)∧aa (Kd.R (Kd.int .i64) 2 w' w.heap.size (fun _=>True) asg oC)∧aa (Below w.heap.size w w'));(case atStart=>exact ⟨(aAt),(0),eS,H',⟨Nat.le_refl _⟩,⟨uR ash.out⟩,⟨uH HB.out⟩⟩)
 case round =>
  clear H';(try clear c1);(try clear c2);(try clear p2);(try clear c6);(try clear qo);(try clear vW);(try clear c7);(try clear yQ);(try clear Bb);(try clear c8);obtain ⟨oC,tq,rfl,HA,HK1,jy,HB⟩:=hrel
  cases gk with
  | zero=>exact absurd HA.out (by simp [gT.l0])
  | succ k1 =>
   have H:=HA.out;clear HA;simp only [gT.l0] at H;replace H:=gF H;obtain ⟨Ay,H⟩|⟨Ay,H⟩:=H
   ·replace H:=bO H;obtain ⟨akz,A20,H⟩:=H;obtain rfl:=Option.some.inj H;obtain ⟨mX,mY,rfl⟩:=Kd.aV jy.out;go_wp2_with (first | ((with_reducible refine ae (f:=62) rfl ?_);refine gL (some 43) Tryz.func62 #[.slice mX oC.length mY] ?_;(with_reducible refine (iT.calls k1 (fun k_=>some k_ = (.slice mX oC.length mY : Value).ownBlock) (.slice mX oC.length mY) oC akz w _ ?side1 ?side2 A20.out).mono ?_);(case side1=>exact uH HB.out);(case side2=>exact Kd.uy rfl jy.out);rintro e w22 ⟨aFS,rfl,ho0,hb,hkp⟩;refine ⟨_,rfl,?_⟩;have asi:=zA (Kd.ag (ok':=fun k_=>True) ho0 (fun k_ hk_=>trivial));replace HB:=zA (hb);clear jy;(try clear hb);(try clear hkp);(try clear ho0)));go_ret;exact ⟨_,by first | rfl | (simp [eP,eQ] <;> rfl) | (simp only [← tT];first | rfl | (simp [eP,eQ] <;> rfl)) | (simp [*,eP,eQ] <;> rfl),uR asi.out,uH HB.out⟩
   replace H:=gD H;obtain ⟨Ja,H⟩:=H;replace H:=gD H;obtain ⟨aaY,H⟩:=H;replace H:=gD H;obtain ⟨E9,H⟩:=H;replace H:=bO H;obtain ⟨XB,A15,H⟩:=H;obtain ⟨asj,ahL⟩:=eY (oC.set (tq : Int).toNat XB : List Int);(try rw [←ahL.out] at H);have H':=zA H;clear H;have akA : 0 ≤ (tq : Int):=oD;have akB : tq < (l2.length : Int):=oD;obtain ⟨aDQ,aAu,VO⟩:=Kd.ik HR2.out tq akA akB;cases aAu;replace VO:=hc HB VO;replace akA:=eq_true akA;replace akB:=eq_true akB;obtain ⟨oJ,nY,rfl⟩:=Kd.aV jy.out;have akC : 0 ≤ (tq : Int):=oD;have akD : tq < (oC.length : Int):=oD;obtain ⟨asl,aAv,afe⟩:=Kd.ik (Kd.aC jy.out).2.2 tq akC akD;cases aAv;replace akC:=eq_true akC;replace akD:=eq_true akD;go_wp2_with (first | ((with_reducible refine ae (f:=54) rfl ?_);refine gL (some 39) Tryz.func54 #[.int .i64 a0,.int .i64 (wrap64 ((rd oC tq) + (wrap64 (a3 * (rd l2 tq)))))] ?_;(with_reducible refine (dX.calls a0 (wrap64 ((rd oC tq) + (wrap64 (a3 * (rd l2 tq))))) XB _ A15.out).mono ?_);rintro e w' ⟨rfl,⟨nd,rfl⟩⟩;refine ⟨_,rfl,?_⟩;(try (rw [vL wr];generalize hq_ : World.drewN wr _ = wr;have n0_ : aa (Kd.R (Kd.int .i64) 2 wr w.heap.size (fun _=>True) (.slice (some asl) oC.length nY) oC):=⟨by rw [← hq_];exact (uR jy.out)⟩;have n1_ : aa (Below w.heap.size w wr):=⟨by rw [← hq_];exact (uH HB.out)⟩;clear jy HB hq_;have jy:=n0_;have HB:=n1_;clear n0_ n1_));have p16 : 0 ≤ (tq : Int):=of_decide_eq_true (by first | (with_reducible assumption) | assumption);have q16 : (tq : Int) < ((oC.length : Int) : Int):=of_decide_eq_true (by first | (with_reducible assumption) | assumption);obtain ⟨akE,YE,WT,asn,aAw,aFT,aso⟩:=Kd.Bt jy.out (by omega);(first | cases WT | (injection WT with ea_ en_ ec_;(first | subst ea_ | (injection ea_ with ea_;subst ea_));subst ec_;clear en_));have asq:=zA asn;have:=geI asq;have aFU:=zA aso;clear asn aAw aso;(first | simp only [add_plain] at afe | skip);obtain ⟨aAx,aAy⟩:=Kd.yF 0 jy.out (tq : Int) p16 q16;replace p16:=eq_true p16;replace q16:=eq_true q16;obtain ⟨aDR,aDS⟩:=Kd.yF 0 jy.out (tq : Int) (of_decide_eq_true (by first | (with_reducible assumption) | assumption)) (of_decide_eq_true (by first | (with_reducible assumption) | assumption));have akF:=Kd.SB jy.out (tq : Int) XB) | ((with_reducible refine tN (t:=2) (p:=40) rfl ?_);refine rG (t:=2) (p:=40) (v:=?aAz) (w1:=(wr.setCell ⟨akE,(tq : Int).toNat,none⟩ (.int .i64 XB))) ?hg ?ho ?hn ?hr ?_;(case ho=>rfl);(case hg=>rfl);(case hn=>rfl);(case hr=>first | (go_simp;done) | (go_simp;rfl));intro w19 hw;have hg : wr.grownBy w19 (some akE):=(by rw [hw];exact akF.2);have hp_ : Kd.R (Kd.int .i64) 2 w19 w.heap.size (fun _=>True) (.slice (some ⟨akE,0,none⟩) oC.length nY) asj:=(by rw [hw,ahL.out];exact akF.1);clear akF;replace jy:=zA (hp_);replace HB:=zA ((by rw [hw];exact mW (HB.out) asq.out : Below w.heap.size w w19));clear hg hw hp_));go_roundg k1;(case measure=>have:=HK1.out;omega);(case rel=>exact ⟨(asj),(wrap64 (tq + 1)),eS,H',⟨by have:=HK1.out;omega⟩,⟨uR jy.out⟩,⟨uH HB.out⟩⟩)
end Go.Proofs.YtnpepkpogohcmaaGreat.Pr
