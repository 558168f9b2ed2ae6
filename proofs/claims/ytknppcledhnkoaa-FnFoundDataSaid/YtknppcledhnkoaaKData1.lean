/- Texts of this session in one: what functions of the program compute, and plain facts of it, under the conditions that each theorem names. -/
import Derived.ArgAppend
import Derived.Below
import Derived.BigQuiet
import Derived.Deep.AppendLies
import Derived.Deep.CutBlock
import Derived.Deep.DeepCutAuto
import Derived.Deep.Draws
import Derived.Deep.LoopGhost
import Derived.Deep.OwnRows
import Derived.Deep.QuietTactic
import Derived.Deep.RegionHeld3
import Derived.KernelRfl
import Derived.Laws.BitsLemmas
import Derived.Laws.BytesArg
import Derived.Laws.IdiomCopy
import Derived.Laws.MakeOwn
import Derived.Laws.OwnMore
import Derived.Laws.Rows
import Derived.Laws.Slices
import Derived.Lib.AppendStr
import Derived.Lib.ConvBytes
import Derived.LoopIn
import Derived.LoopNIn
import Derived.Maps.AppendAt
import Derived.OrdersHeld
import Derived.OwnWalk
import Derived.OwnWalkIn
import Derived.RangeFuncBox
import Derived.RangeFuncLeaves
import Derived.RowKit
import Derived.RowKit3
import Derived.Shelf.Abstract
import Derived.Tactics
import Derived.TacticsInMore
import Derived.Test.YtknppcledhnkoaaProg
import Derived.WalkKit
import Derived.WalkSpells
import Derived.WideLaws
import Derived.Test.YtknppcledhnkoaaKWApart
import Derived.Test.YtknppcledhnkoaaKWArr
import Derived.Test.YtknppcledhnkoaaKWAt
import Derived.Test.YtknppcledhnkoaaKWEqStruct
import Derived.Test.YtknppcledhnkoaaKWFoot
import Derived.Test.YtknppcledhnkoaaKWFootNe
import Derived.Test.YtknppcledhnkoaaKWFour
import Derived.Test.YtknppcledhnkoaaKWGuard
import Derived.Test.YtknppcledhnkoaaKWInv
import Derived.Test.YtknppcledhnkoaaKWInvWords
import Derived.Test.YtknppcledhnkoaaKWKept
import Derived.Test.YtknppcledhnkoaaKWLast
import Derived.Test.YtknppcledhnkoaaKWMore
import Derived.Test.YtknppcledhnkoaaKWN
import Derived.Test.YtknppcledhnkoaaKWNEv
import Derived.Test.YtknppcledhnkoaaKWQPut
import Derived.Test.YtknppcledhnkoaaKWRepsOne
import Derived.Test.YtknppcledhnkoaaKWShare
import Derived.Test.YtknppcledhnkoaaKWTab
import Derived.Test.YtknppcledhnkoaaKWWords
import Derived.Test.YtknppcledhnkoaaKWZeros
namespace Go.Proofs.Ytknppcledhnkoaa.Pr
/- Function values: what a caller is told of a value of function type (its call answers as a plain function says), and one step of a walk that calls it. -/
open Go.RowKit Go.Proofs.YtknppcledhnkoaaW.PrintWords Go.Proofs.YtknppcledhnkoaaW.PrintLast Go.Proofs.YtknppcledhnkoaaW.PrintMore
section
variable {P : Program} {w W : World} {F : Value}

/-- F is a function value that takes nothing and answers b in every later world. -/
def FnB (P : Program) (w : World) (F : Value) (b : Bool) : Prop :=
  ∃ (g : FuncId) (fi ca : Array Value),F = .func (.func g) fi ca∧Enters P g ∧
    ∀ W,Below w.heap.size w W → Calls P g (fi ++ ca) W fun e W'=>e = .returned (.bool b)∧Below W.heap.size W W'
/-- F is a function value that takes a whole number x and answers f x. -/
def FnI (P : Program) (w : World) (F : Value) (f : Int → Option Bool) : Prop :=
  ∃ (g : FuncId) (fi ca : Array Value),F = .func (.func g) fi ca∧Enters P g ∧
    ∀ x r,f x = some r → ∀ W,Below w.heap.size w W → Calls P g (fi ++ #[.int .i64 x] ++ ca) W fun e W'=>e = .returned (.bool r)∧Below W.heap.size W W'
/-- F is a function value that takes a list l of whole numbers and answers f l. -/
def FnL (P : Program) (w : World) (F : Value) (f : List Int → Option Bool) : Prop :=
  ∃ (g : FuncId) (fi ca : Array Value),F = .func (.func g) fi ca∧Enters P g ∧
    ∀ l r A c,f l = some r → ∀ W,Below w.heap.size w W → Kd.C (Kd.int .i64) W A l.length l → l.length ≤ c →
      Calls P g (fi ++ #[.slice A l.length c] ++ ca) W fun e W'=>e = .returned (.bool r)∧Below W.heap.size W W'

theorem FnB.of {g : FuncId} {fn : Func} (hf : P.funcs[g]? = some fn) (hn : (fn.name == "runtime.NumGoroutine") = false) (hb : fn.body.isSome = true := by rfl) {fi ca : Array Value} {b : Bool}
    (h : ∀ W,Below w.heap.size w W → Calls P g (fi ++ ca) W fun e W'=>e = .returned (.bool b)∧Below W.heap.size W W') : FnB P w (.func (.func g) fi ca) b :=
  ⟨g,fi,ca,rfl,fun args W=>r9 hf hn hb args W,h⟩
theorem FnI.of {g : FuncId} {fn : Func} (hf : P.funcs[g]? = some fn) (hn : (fn.name == "runtime.NumGoroutine") = false) (hb : fn.body.isSome = true := by rfl) {fi ca : Array Value} {f : Int → Option Bool}
    (h : ∀ x r,f x = some r → ∀ W,Below w.heap.size w W → Calls P g (fi ++ #[.int .i64 x] ++ ca) W fun e W'=>e = .returned (.bool r)∧Below W.heap.size W W') : FnI P w (.func (.func g) fi ca) f :=
  ⟨g,fi,ca,rfl,fun args W=>r9 hf hn hb args W,h⟩
theorem FnL.of {g : FuncId} {fn : Func} (hf : P.funcs[g]? = some fn) (hn : (fn.name == "runtime.NumGoroutine") = false) (hb : fn.body.isSome = true := by rfl) {fi ca : Array Value} {f : List Int → Option Bool}
    (h : ∀ l r A c,f l = some r → ∀ W,Below w.heap.size w W → Kd.C (Kd.int .i64) W A l.length l → l.length ≤ c →
      Calls P g (fi ++ #[.slice A l.length c] ++ ca) W fun e W'=>e = .returned (.bool r)∧Below W.heap.size W W') : FnL P w (.func (.func g) fi ca) f :=
  ⟨g,fi,ca,rfl,fun args W=>r9 hf hn hb args W,h⟩

theorem FnI.later {F : Value} {f : Int → Option Bool} (hb : Below w.heap.size w W) (h : FnI P w F f) : FnI P W F f:=by
  obtain ⟨g,fi,ca,e,he,h⟩:=h
  exact ⟨g,fi,ca,e,he,fun x r hr W2 h2=>h x r hr W2 (hb.trans (h2.mono hb.size))⟩
theorem FnL.later {F : Value} {f : List Int → Option Bool} (hb : Below w.heap.size w W) (h : FnL P w F f) : FnL P W F f:=by
  obtain ⟨g,fi,ca,e,he,h⟩:=h
  exact ⟨g,fi,ca,e,he,fun l r A c hr W2 h2=>h l r A c hr W2 (hb.trans (h2.mono hb.size))⟩
end
/- Short names for what the printed walks spell out: facts of a world hold in each world that comes of it by new blocks and drawn numbers; no condition. -/
open Go Go.RowKit Go.Proofs.YtknppcledhnkoaaW.PrintWords Go.Proofs.YtknppcledhnkoaaW.PrintLast Go.Proofs.YtknppcledhnkoaaW.PrintMore
/-- `w` comes of `w0` by new blocks and drawn numbers alone. -/
class Up (w0 w : World) : Prop where
  up : Below w0.heap.size w0 w
instance Up.refl (w : World) : Up w w:=⟨Below.refl _ _⟩
instance Up.alloc (w0 w : World) (o : Obj) [u : Up w0 w] : Up w0 (w.alloc o):=⟨gp u.up o⟩
instance Up.drew (w0 w : World) [u : Up w0 w] : Up w0 w.drew:=⟨aK u.up⟩
instance Up.drewN (w0 w : World) (n : Nat) [u : Up w0 w] : Up w0 (w.drewN n):=⟨fu u.up n⟩
instance Up.setDrewN (w0 w : World) (n : Nat) (a : Addr) (v : Value) [u : Up w0 (w.setCell a v)] : Up w0 ((w.drewN n).setCell a v):=⟨⟨u.up.os,u.up.tape,u.up.output,u.up.size,u.up.block⟩⟩
instance Up.setDrew (w0 w : World) (a : Addr) (v : Value) [u : Up w0 (w.setCell a v)] : Up w0 (w.drew.setCell a v):=⟨⟨u.up.os,u.up.tape,u.up.output,u.up.size,u.up.block⟩⟩
theorem jD (w : World) (n : Nat) (a : Addr) (v : Value) : (w.drewN n).setCell a v = (w.setCell a v).drewN n:=rfl
/-- The block lies behind the border. -/
class Geq (b g : Nat) : Prop where
  geq : b ≤ g
theorem geI {b g : Nat} (h : au (b ≤ g)) : Geq b g:=⟨h.out⟩
/-- The same, and cells of own blocks may be set. -/
class UpS (b : Nat) (w0 w : World) : Prop where
  up : ∀ {w1 : World},b = w1.heap.size → Below b w1 w0 → Below b w1 w
instance UpS.refl (b : Nat) (w : World) : UpS b w w:=⟨fun _ h=>h⟩
instance UpS.alloc (b : Nat) (w0 w : World) (o : Obj) [u : UpS b w0 w] : UpS b w0 (w.alloc o):=⟨by rintro w1 rfl h;exact gp (u.up rfl h) o⟩
instance UpS.drew (b : Nat) (w0 w : World) [u : UpS b w0 w] : UpS b w0 w.drew:=⟨fun e h=>aK (u.up e h)⟩
instance UpS.drewN (b : Nat) (w0 w : World) (n : Nat) [u : UpS b w0 w] : UpS b w0 (w.drewN n):=⟨fun e h=>fu (u.up e h) n⟩
instance UpS.setCell (b : Nat) (w0 w : World) (g j : Nat) (v : Value) [u : UpS b w0 w] [q : Geq b g] : UpS b w0 (w.setCell ⟨g,j,none⟩ v):=⟨by rintro w1 rfl h;exact lu (u.up rfl h) q.geq⟩
section
variable {α : Type} {d : Kd α} {e : Nat} {w0 w w1 : World} {base : Nat} {ok : Nat → Prop} {v : Value} {xs : List α}
theorem uR (h : d.R e w0 base ok v xs) [u : Up w0 w] : d.R e w base ok v xs:=Kd.dX h u.up
theorem uC {A : Option Addr} {n : Nat} (h : d.C w0 A n xs) [u : Up w0 w] : d.C w A n xs:=Kd.kF h u.up
theorem uB {g : Nat} {o : Obj} (h : w0.heap[g]? = some o) [u : Up w0 w] : w.heap[g]? = some o:=aX h u.up
theorem uH (h : Below w1.heap.size w1 w0) [u : UpS w1.heap.size w0 w] : Below w1.heap.size w1 w:=u.up rfl h
theorem zA {p : Prop} (h : p) : au p:=au.mk h
theorem xB {g : Nat} {o : Obj} (h : au (w0.heap[g]? = some o)) (hb : Below w.heap.size w w1) [u : Up w0 w] : au (w1.heap[g]? = some o):=zA (aX (aX h.out u.up) hb)
theorem xR (h : au (d.R e w0 base ok v xs)) (hb : Below w.heap.size w w1) [u : Up w0 w] : au (d.R e w1 base ok v xs):=zA (Kd.dX (Kd.dX h.out u.up) hb)
theorem xH {W : World} (h : au (Below W.heap.size W w0)) (hb : Below w.heap.size w w1) [u : UpS W.heap.size w0 w] : au (Below W.heap.size W w1):=zA (bG (u.up rfl h.out) hb)
theorem neL {g : Nat} {o : Obj} (h : au (w0.heap[g]? = some o)) [u : Up w0 w] : g ≠ w.heap.size:=Nat.ne_of_lt (nQ (aX h.out u.up))
theorem neG {g : Nat} {o : Obj} (h : au (w0.heap[g]? = some o)) [u : Up w0 w] : w.heap.size ≠ g:=Nat.ne_of_gt (nQ (aX h.out u.up))
end
section
variable {α β : Type} {f : α → β} {x a : α} {l : List α} {i : Nat}
theorem la : Array.map f l.toArray = (l.map f).toArray:=List.map_toArray
theorem lb : List.map f (a :: l) = f a :: List.map f l:=List.map_cons
theorem lc : List.map f [] = []:=List.map_nil
theorem ld : (l.drop i).length = l.length - i:=List.length_drop
theorem le : (l.take i).length = min i l.length:=List.length_take
theorem ls (l : List α) (i : Nat) (a : α) : l.toArray.setIfInBounds i a = (l.set i a).toArray:=List.setIfInBounds_toArray l i a
theorem lz : (x :: l).set 0 a = a :: l:=List.set_cons_zero
theorem ln : (x :: l).set (i + 1) a = x :: l.set i a:=List.set_cons_succ
end
/-- What copy(xs, ys) makes of xs. -/
def cpy (xs ys : List Int) : List Int:=ys.take (min ys.length xs.length) ++ xs.drop (min ys.length xs.length)
section
variable {P : Program} {ops : Array Oper} {rest : List Oper} {o : Oper} {a : Act} {Q : Exit → Act → World → Prop}
theorem BV {k : IntKind} {w0 W : World} (base : Nat) (hgd : o.guard = none) (s x : Operand) (t t' e : TypeId)
    (ho : o.op = .call { callee:=.builtin .copy,args:=#[s,x],argTypes:=#[t,t'] }) (ht : P.underlying t = some (.slice e)) (z : Value) (bytes : Nat) (hinfo : (P.info? e).map (fun i=>(i.zero,i.size,i.bytes)) = some (some z,1,bytes))
    (v : Value) (xs ys : List Int) (A : Option Addr) (m c : Nat) (ok : Nat → Prop) (hs : a.eval s = v) (hx : a.eval x = .slice A m c)
    (HO : (Kd.int k).R e W base ok v xs) (HR : (Kd.int k).C W A m ys) (HB : Below base w0 W) (hbase : base ≤ W.heap.size)
    (h : ∀ w1,(Kd.int k).R e w1 base ok v (cpy xs ys) → Below base w0 w1 → W.grownBy w1 v.ownBlock → (v.ownBlock = v.ownBlock ∨ ∃ b,v.ownBlock = some b∧W.heap.size ≤ b) → wpList P ops Q rest (a.put o.dst (.int .i64 ((min m xs.length : Nat) : Int))) w1) :
    wpList P ops Q (o :: rest) a W:=by
  have hm : ys.length = m:=Kd.Lx HR
  subst hm
  have hi : (P.info? e).map (·.size) = some 1:=by
    obtain ⟨i0,hi,hz⟩:=Option.map_eq_some_iff.1 hinfo
    simp only [Prod.mk.injEq] at hz
    rw [hi,Option.map_some,hz.2.1]
  exact Kd.JS (h1:=fun _=>rfl) (0 : Int) base hgd s x t t' e ho ht hi v xs ys A ys.length c ok hs hx HO HR HB hbase (fun w1 h1 h2 h3=>h w1 h1 h2 h3 (.inl rfl))
end
attribute [local go_sem] jV jW kR kT jv jw jX jY   -- for this text's walks alone
set_option linter.unusedVariables false
set_option linter.unusedSimpArgs false
def M0 : Option Int → Value
  | none => .nilIface
  | some c => .iface 0 (.int .i64 c)
theorem gX : (Try.prog.info? 2).map (fun i => (i.zero, i.size, i.bytes)) = some (some (.int .i64 0), 1, 8) := by kernel_rfl
theorem JH : (Try.prog.info? 24).map (fun i => (i.zero, i.size, i.bytes)) = some (some (.slice none 0 0), 1, 24) := by kernel_rfl
-- the values' own types
def jS (xs : List (List Int)) (i : Int) : (List Int) := xs.getD i.toNat ([] : List Int)
theorem vU {w : World} {A : Option Addr} {n : Nat} {xs : List (List Int)} (h : Kd.C (Kd.slice 2 (Kd.int .i64)) w A n xs) (i : Int) (h0 : 0 ≤ i) (h1 : i < n) : ∃ ad A0 c0, A = some ad ∧ w.cell? (ad.add i.toNat) = some (.slice A0 (jS xs i).length c0) ∧ (jS xs i).length ≤ c0 ∧ (Kd.int .i64).C w A0 (jS xs i).length (jS xs i) := by
  obtain ⟨ad, c, e, _, hK, hc0⟩ := Kd.LA h ([] : List Int) i h0 h1
  have hc : ∀ j u, c[j]? = some u → w.cell? (ad.add (i.toNat * 1 + j)) = some u := hc0
  obtain ⟨A0, c0, rfl, l0, g0⟩ := hK
  exact ⟨ad, A0, c0, e, by have hq := hc 0 _ rfl; rwa [Nat.mul_one, Nat.add_zero] at hq, l0, g0⟩

def MU (xs : List (List (List Int))) (i : Int) : (List (List Int)) := xs.getD i.toNat ([] : List (List Int))
/- slices.Backward over whole numbers: a loop over it is told of all indices and numbers, from the last one on; the slice lies within the reach. (Turned from a worked text of the kit on slices.All.) -/
open Go.RowKit Go.Shelf
attribute [local go_sem] Oper.semAt_some
theorem add_block (ad : Addr) (j : Nat) : (ad.add j).block = ad.block:=by
  unfold Addr.add
  first | rfl | (split <;> rfl)
/-- What has come when k rounds are over. -/
def upto {α : Type} (f : Nat → α) (k : Nat) : List α:=(List.range k).map f
theorem ut {α : Type} (f : Nat → α) (k : Nat) : upto f (k + 1) = upto f k ++ [f k]:=by simp [upto,List.range_succ]
theorem Bq {α : Type} (f : Nat → α) (k : Nat) : (upto f k).length = k:=by simp [upto]
/-- The k-th one from behind: its index and the number. -/
def bk (zs : List Int) (len k : Nat) : Int × Int:=((len : Int) - 1 - (k : Int),zs[len - 1 - k]?.getD 0)

/-- What a round keeps: whatever lay below n₀, and the box Bs that holds the slice. -/
def KpB (n₀ Bs : Nat) (W W' : World) : Prop:=Below n₀ W W'∧∀ v,W.cell? ⟨Bs,0,none⟩ = some v → W'.cell? ⟨Bs,0,none⟩ = some v
theorem KpB.trans {n₀ Bs : Nat} {A B C : World} (h : KpB n₀ Bs A B) (k : KpB n₀ Bs B C) : KpB n₀ Bs A C:=⟨h.1.trans k.1,fun v e=>k.2 v (h.2 v e)⟩

set_option maxRecDepth 100000 in
set_option maxHeartbeats 2000000 in
theorem Gq (F : Fence) (n : Nat) (h8 : F.fn 162) (hro : F.round = none) (hn : 1 ≤ n) (l Bs n₀ len cap : Nat) (ad : Addr) (zs : List Int) (hreach : len * 8 ≤ 140737488351232) (hb : ad.block < n₀) (J Jx : List (Int × Int) → World → Prop)
    (hY : ∀ pre x W,J pre W → pre.length < len → YieldAt F (n - 1) Try.prog l #[.int .i64 x.1,.int .i64 x.2] W fun e W' =>
      (e = .returned (.bool true)∧J (pre ++ [x]) W'∧KpB n₀ Bs W W') ∨ (e = .returned (.bool false)∧Jx (pre ++ [x]) W'))
    (W : World) (hBs : W.cell? ⟨Bs,0,none⟩ = some (.slice (some ad) len cap)) (hc : ∀ j,j < len → W.cell? (ad.add j) = some (.int .i64 (zs[j]?.getD 0))) (h0 : J [] W) :
    CallsIn F n Try.prog 162 #[.func (.yield l) #[] #[],.pointer (some ⟨Bs,0,none⟩)] W fun e W'=>(∃ v,e = .returned v) ∧
      ((∃ ys,ys = upto (bk zs len) len∧J ys W') ∨ (∃ pre,(∃ k,k ≤ len∧pre = upto (bk zs len) k)∧Jx pre W')):=by
  refine callsIn_of_wp Try.func162 rfl h8 ?_ hro
  simp only [Try.ntmps162,List.size_toArray,List.length_cons,List.length_nil,Nat.reduceAdd,Nat.reduceSub,Array.replicate_succ,Array.replicate_zero,List.push_toArray,List.append_toArray,List.nil_append,List.cons_append]
  have hw0 : wrap64 ((len : Int) - 1) = (len : Int) - 1 - ((0 : Nat) : Int):=by unfold wrap64;omega
  gi_wp2
  gi_loopw [3] (fun i wr=>∃ k : Nat,k ≤ len∧i = .int .i64 ((len : Int) - 1 - (k : Int))∧J (upto (bk zs len) k) wr∧KpB n₀ Bs W wr)
    (fun i _=>(intOf i + 1).toNat)
  case atStart=>exact ⟨0,Nat.zero_le _,by first | rfl | (simp;done),h0,Below.refl _ _,fun _ h=>h⟩
  case round =>
    obtain ⟨k,hk,rfl,hJs,hnx⟩:=hrel
    have hcx : k < len → wr.cell? (ad.add (len - 1 - k)) = some (.int .i64 (zs[len - 1 - k]?.getD 0)):=fun h=>(hnx.1.cell (p:=ad.add (len - 1 - k)) (show (ad.add (len - 1 - k)).block < n₀ from by rw [add_block];exact hb)).trans (hc _ (by omega))
    have hbx : wr.cell? ⟨Bs,0,none⟩ = some (.slice (some ad) len cap):=hnx.2 _ hBs
    by_cases hlt : k < len
    · obtain ⟨fn,tmps,assign,body,hy,hR⟩:=hY _ (bk zs len k) wr hJs (by rw [Bq];exact hlt)
      dsimp only [bk] at hy
      have hcx':=hcx hlt
      have hi0 : (0 : Int) ≤ (len : Int) - 1 - (k : Int):=by omega
      have hi1 : (len : Int) - 1 - (k : Int) < (len : Int):=by omega
      have hin : ((len : Int) - 1 - (k : Int)).toNat = len - 1 - k:=by omega
      have hw1 : wrap64 ((len : Int) - 1 - (k : Int) - 1) = (len : Int) - 1 - ((k + 1 : Nat) : Int):=by unfold wrap64;omega
      gi_wp2
      refine hR.mono ?_
      rintro e W3 (⟨rfl,hJ3,hk3⟩ | ⟨rfl,hJx3⟩)
      · gi_wp2
        go_roundw
        case rel=>exact ⟨k + 1,by omega,by first | rfl | (simp;done) | (simp;omega),by rw [ut];exact hJ3,hnx.trans hk3⟩
        case measure=>simp [intOf];omega
      · gi_wp2
        refine bodyPost_ret (results_none rfl _ _ _) rfl ?_
        exact ⟨⟨_,rfl⟩,.inr ⟨_,⟨k + 1,by omega,(ut _ _).symm⟩,hJx3⟩⟩
    · obtain rfl : k = len:=by omega
      have hng : ¬ ((0 : Int) ≤ (k : Int) - 1 - (k : Int)):=by omega
      gi_wp2
      go_end0
      first | exact ⟨⟨_,rfl⟩,.inl ⟨_,rfl,hJs⟩⟩ | exact ⟨⟨_,rfl⟩,.inl hJs⟩

set_option maxRecDepth 100000 in
set_option maxHeartbeats 1000000 in
theorem yV (F : Fence) (n : Nat) (h8 : F.fn 162) (hro : F.round = none) (l Bs cap : Nat) (A : Option Addr) (J : List (Int × Int) → World → Prop) (W : World) (hBs : W.cell? ⟨Bs,0,none⟩ = some (.slice A 0 cap)) (h0 : J [] W) :
    CallsIn F n Try.prog 162 #[.func (.yield l) #[] #[],.pointer (some ⟨Bs,0,none⟩)] W fun e W'=>(∃ v,e = .returned v)∧J [] W':=by
  refine callsIn_of_wp Try.func162 rfl h8 ?_ hro
  simp only [Try.ntmps162,List.size_toArray,List.length_cons,List.length_nil,Nat.reduceAdd,Nat.reduceSub,Array.replicate_succ,Array.replicate_zero,List.push_toArray,List.append_toArray,List.nil_append,List.cons_append]
  gi_wp2
  gi_loopw [3] (fun i wr=>i = .int .i64 (-1)∧J [] wr) (fun _ _=>0)
  case atStart=>exact ⟨rfl,h0⟩
  case round =>
    obtain ⟨rfl,hJs⟩:=hrel
    gi_wp2
    go_end0
    exact ⟨⟨_,rfl⟩,hJs⟩

set_option maxHeartbeats 1000000 in
/-- slices.Backward(s): the slice value is boxed; the function value captures the box. -/
theorem Hr (F : Fence) (n : Nat) (h5 : F.fn 154) (hro : F.round = none) (a : Option Addr) (len cap : Nat) (w : World) :
    CallsIn F n Try.prog 154 #[.slice a len cap] w fun e w'=>e = .returned (.func (.func 162) #[] #[.pointer (some ⟨w.heap.size,0,none⟩)])∧w' = w.alloc (.cells #[.slice a len cap] 24):=by
  refine callsIn_of_wp Try.func154 rfl h5 ?_ hro
  simp only [Try.ntmps154,List.size_toArray,List.length_cons,List.length_nil,Nat.reduceAdd,Nat.reduceSub,Array.replicate_succ,Array.replicate_zero,List.push_toArray,List.append_toArray,List.nil_append,List.cons_append]
  gi_wp2
  go_ret
  exact ⟨rfl,rfl⟩
/-- The slice value holds the numbers, in a block below n₀; or there are none. -/
def xU (n₀ : Nat) (W : World) (sv : Value) (zs : List Int) : Prop :=
  (zs = []∧∃ A cap,sv = .slice A 0 cap) ∨ ∃ ad cap,sv = .slice (some ad) zs.length cap∧ad.block < n₀∧∀ j,j < zs.length → W.cell? (ad.add j) = some (.int .i64 (zs[j]?.getD 0))
theorem xU.below {n₀ : Nat} {A B : World} (h : Below n₀ A B) {sv : Value} {zs : List Int} : xU n₀ A sv zs → xU n₀ B sv zs
  | .inl e=>.inl e
  | .inr ⟨ad,cap,e,hb,hc⟩=>.inr ⟨ad,cap,e,hb,fun j hj=>(h.cell (p:=ad.add j) (show (ad.add j).block < n₀ from by rw [add_block];exact hb)).trans (hc j hj)⟩
/-- A loop over slices.Backward(s) is told of all indices and numbers, from the last one on. -/
theorem Cs (F : Fence) (n : Nat) (h8 : F.fn 162) (hro : F.round = none) (hn : 1 ≤ n) (Bs n₀ : Nat) (sv : Value) (zs : List Int) (hreach : zs.length * 8 ≤ 140737488351232) (w : World) (hB0 : Bs < w.heap.size) (hn₀ : n₀ ≤ w.heap.size)
    (hc : w.cell? ⟨Bs,0,none⟩ = some sv) (hI : xU n₀ w sv zs) :
    SeqStopsK F n Try.prog 162 #[.pointer (some ⟨Bs,0,none⟩)] (fun x : Int × Int=>#[Value.int .i64 x.1,Value.int .i64 x.2]) (KpB n₀ Bs) (fun ys=>ys = upto (bk zs zs.length) zs.length) (fun pre=>∃ k,k ≤ zs.length∧pre = upto (bk zs zs.length) k) zs.length w:=fun l J Jx W hW _ _ hY h0=>by
  have hc':=(hW.cell (p:=⟨Bs,0,none⟩) hB0).trans hc
  rcases hI.below (hW.mono hn₀) with ⟨rfl,A,cap,rfl⟩ | ⟨ad,cap,rfl,hb,hcs⟩
  · exact (yV F n h8 hro l Bs cap A J W hc' h0).mono fun e W' ⟨he,hj⟩=>⟨he,.inl ⟨_,rfl,hj⟩⟩
  · exact Gq F n h8 hro hn l Bs n₀ zs.length cap ad zs hreach hb J Jx hY W hc' hcs h0
/- slices.Clone at []int64: a new row with the same numbers (nil stays nil). -/
def dY.f (l : List Int) : Option (List Int):=if l.length < 17592186044416 then some l else none

set_option maxHeartbeats 8000000 in
set_option maxRecDepth 100000 in
theorem dY.calls (A0 : Option Addr) (c0 : Nat) (l0 : List Int) (r : List Int) (w : World) (hr0 : Kd.C (Kd.int .i64) w A0 l0.length l0) (hc0 : l0.length ≤ c0) (h : dY.f l0 = some r) :
    Calls Try.prog 143 #[.slice A0 l0.length c0] w fun e w'=>∃ v0_ : Value,e = .returned (v0_)∧Kd.R (Kd.int .i64) 2 w' w.heap.size (fun _=>True) v0_ r∧Below w.heap.size w w':=by
  have hnil : ∀ (W : World) (a : Option Addr) (n c : Nat),(Go.binOp .eql 24 (.slice a n c) (.slice none 0 0)).run Try.prog W = .ok (.bool a.isNone) W:=fun W a n c=>Lib.run_eql_slice_nil W 24 2 a n c 0 0 Try.underlying24
  unfold dY.f at h
  split at h
  case isFalse=>cases h
  rename_i c2
  obtain rfl:=Option.some.inj h
  clear h
  have HR0:=au.mk hr0
  have HC0:=au.mk hc0
  clear hr0 hc0
  have HB:=au.mk (Below.refl w.heap.size w)
  have MH:=au.mk c2
  clear c2
  cases A0 with
  | none =>
    have hl : l0 = []:=by
      rcases l0 with _ | ⟨x,l⟩
      · rfl
      · obtain ⟨ad,e,_⟩:=Kd.dI HR0.out 0 (by omega) (by simp only [List.length_cons];omega)
        cases e
    subst hl
    go_enter Try.func143,Try.ntmps143
    go_wp2
    go_ret
    exact ⟨_,rfl,Kd.IG _ _ _ _ _,HB.out⟩
  | some ad0 =>
    obtain ⟨LB,IR⟩ : ∃ y_ : List Int,y_ = (([] : List Int)):=⟨_,rfl⟩
    have Dx:=au.mk IR
    clear IR
    obtain ⟨MI,IU⟩ : ∃ y_ : List Int,y_ = (LB ++ l0):=⟨_,rfl⟩
    have IV:=au.mk IU
    clear IU
    go_enter Try.func143,Try.ntmps143
    go_wp2_with (first | ((with_reducible refine bz (N:=5) rfl ?_);refine Kd.Ar (Kd.int .i64) _ 2 ?hg (N:=5) ?hd (xs:=([] : List Int)) (inner:=[]) (ok:=fun _=>True) (okp:=fun _=>True) ?hr ?hp (fun _ hk=>hk) trivial (Below.refl _ _) (Nat.le_refl _) (by simp) ?_;(case hd=>rfl);(case hg=>rfl);(case hr=>first | (go_simp;done) | (go_simp;rfl));(case hp=>exact (iW.none _ _));intro MJ w3 ho4 hb hg_ hnew_;clear hg_ hnew_;(first | rw [← Dx.out] at ho4 | (simp only [Int.reduceToNat] at ho4;rw [← Dx.out] at ho4));have n0_:=au.mk (Kd.iZ ho4 (dw (by repeat (first | (with_reducible first | exact HB.out | apply gp | apply fu | apply aK) | exact HB.out))));have n1_:=au.mk (bG (by repeat (first | (with_reducible first | exact HB.out | apply gp | apply fu | apply aK) | exact HB.out)) hb);clear HB;have IW:=n0_;have HB:=n1_;clear n0_ n1_;clear hb ho4) | ((with_reducible refine iV (b:=.append) (xs:=#[.tmp 5,.tmp 6]) rfl ?_);at_builtin;refine Kd.rO (Kd.int .i64) (w0:=w) w.heap.size rfl (.tmp 5) (.tmp 6) 24 2 (.int .i64 0) 8 rfl Try.underlying24 gX rfl (by decide) (by omega) MJ LB l0 _ _ _ (fun _=>True) (fun _=>False) rfl rfl ?aO ?aR (fun _ _ h=>h) (fun _ h=>h.elim) ?aF ?aB ?aS ?aL ?_;(case aR=>repeat (first | exact (Kd.kF HR0.out HB.out) | (with_reducible refine Kd.C_alloc ?_ _) | (with_reducible refine Kd.C_drewN ?_ _) | (with_reducible refine Kd.pQ ?_)));(case aB=>exact (by repeat (first | (with_reducible first | exact HB.out | apply gp | apply fu | apply aK) | exact HB.out)));(case aF=>exact (fun _ _=>trivial));(case aO=>exact (by (with_reducible repeat (first | apply Kd.R_alloc | apply Kd.jB | apply Kd.jZ));exact IW.out));(case aS=>exact (dw (by repeat (first | (with_reducible first | exact HB.out | apply gp | apply fu | apply aK) | exact HB.out))));(case aL=>have:=MH.out;have e:=Dx.out;rw [e];simp;omega);intro M3 w5 ho hb hg hat;rw [← IV.out] at ho;have n0_:=au.mk (hb);have n1_:=au.mk (ho);clear HB;clear IW;have HB:=n0_;have LC:=n1_;clear n0_ n1_;clear ho hb hg hat))
    go_ret
    have e : l0 = MI:=by rw [IV.out,Dx.out];rfl
    rw [e]
    exact ⟨_,rfl,by (with_reducible repeat (first | apply Kd.R_alloc | apply Kd.jB | apply Kd.jZ));exact LC.out,by repeat (first | (with_reducible first | exact HB.out | apply gp | apply fu | apply aK) | exact HB.out)⟩
/- Short steps of a walk through a region whose order is drawn (each stands for a row that the print spells out); no condition. -/
/-- The lowest n bits of m. -/
def bq : Nat → Nat → List Bool
  | 0,_=>[]
  | n + 1,m=>(m % 2 == 1) :: bq n (m / 2)
def bl (n m : Nat) : Array Bool:=⟨bq n m⟩
section
variable {P : Program} {ops : Array Oper} {Q : Exit → Act → World → Prop} {S : World → Prop} {ds : List Nat} {T : Bool × List (List Nat × List Nat)} {B : List Nat} {fuel : Nat} {l : Array Bool} {a a' : Act} {w : World} {oi : Oper} {v : Value}
theorem pu_ (i : Nat) (N : Tmp) (l' : Array Bool) (HT : au (gY .any ops = T)) (h : bP P .any ops Q S ds fuel l' a' w)
    (hi : ops[i]? = some oi:=by rfl) (hN : oi.dst = some N:=by rfl) (hc : DL T l.toList l'.toList i = true:=by kernel_rfl)
    (hQ : ∀ c a w,Q (.panic c) (a.put oi.dst v) w → Q (.panic c) a w:=by exact fun _ _ _ h=>h)
    (hy : Yields P ops oi v a:=by exact Or.inl ⟨by rfl,by intro w';go_simp;with_reducible rfl⟩)
    (ha : a.put (some N) v = a':=by (simp only [Act.put,ls,lz,ln,bZ,dO];rfl)) : bP P .any ops Q S ds (fuel + 1) l a w :=
  jR l' hi hN (ET HT.out hc) hQ hy ha h
theorem un_ (i : Nat) (N : Tmp) (l' : Array Bool) (HT : au (gY .any ops = T)) (h : bP P .any ops Q S ds fuel l' a' w)
    (hi : ops[i]? = some oi:=by rfl) (hN : oi.dst = some N:=by rfl) (hc : DL T l.toList l'.toList i = true:=by kernel_rfl)
    (hQ : ∀ c a w,Q (.panic c) (a.put oi.dst undef) w → Q (.panic c) a w:=by exact fun _ _ _ h=>h)
    (hy : Yields P ops oi undef a:=by exact Or.inr ⟨by rfl,rfl⟩)
    (ha : a.put (some N) undef = a':=by (simp only [Act.put,ls,lz,ln,bZ,dO];rfl)) : bP P .any ops Q S ds (fuel + 1) l a w :=
  jR l' hi hN (ET HT.out hc) hQ hy ha h
theorem ta_ (i : Nat) (N : Tmp) (l' : Array Bool) (HT : au (gY .any ops = T)) (HW : au (eu T.2 B = true)) (hS : S w) (h : bP P .any ops Q S ds fuel l' a' w)
    (hi : ops[i]? = some oi:=by rfl) (hN : oi.dst = some N:=by rfl) (hc : EW T B ds l.toList l'.toList i = true:=by kernel_rfl)
    (hQ : ∀ c a w,Q (.panic c) (a.put oi.dst v) w → Q (.panic c) a w:=by exact fun _ _ _ h=>h)
    (hy : YieldsIf P ops S oi v a:=by exact Or.inl ⟨by rfl,by intro w' hs;go_simp;with_reducible rfl⟩)
    (ha : a.put (some N) v = a':=by (simp only [Act.put,ls,lz,ln,bZ,dO];rfl)) : bP P .any ops Q S ds (fuel + 1) l a w :=
  kZ l' hi hN (zI HT.out HW.out hc) hQ hy hS ha h
theorem on_ (i : Nat) (N : Option Tmp) (l' : Array Bool) (HT : au (gY .any ops = T))
    (h : ∀ K : Act → World → Prop,Shut (∀ a' w',S w' → (S w' → bP P .any ops Q S ds fuel l' a' w') → K a' w') → if Region.wanted oi (yielded ops a.tmps) = true then Oper.wp P oi a w K Q else K (a.put N undef) w)
    (hi : ops[i]? = some oi:=by rfl) (hN : oi.dst = N:=by rfl) (hc : (nS T.2 l.toList == [i] && l.toList.set i true == l'.toList) = true:=by kernel_rfl) (hd : i ∉ ds:=by decide) : bP P .any ops Q S ds (fuel + 1) l a w :=
  ow l' hi hN (jK HT.out hc) hd h
theorem no_ {a0 : Act} (N : Tmp) (h : bP P .any ops Q S ds fuel l a' w) (ha : a0.put (some N) v = a':=by (simp only [Act.put,ls,lz,ln,bZ,dO];rfl)) : bP P .any ops Q S ds fuel l (a0.put (some N) v) w:=eG ha h
end
/- One more short step: what is read at the world where it comes up; no condition. -/
section
variable {P : Program} {ops : Array Oper} {Q : Exit → Act → World → Prop} {S : World → Prop} {ds : List Nat} {T : Bool × List (List Nat × List Nat)} {fuel : Nat} {l : Array Bool} {a a' : Act} {w : World} {oi : Oper} {v : Value}
theorem lo_ (i : Nat) (N : Tmp) (l' : Array Bool) (HT : au (gY .any ops = T)) (hS : S w) (h : bP P .any ops Q S ds fuel l' a' w)
    (hi : ops[i]? = some oi:=by rfl) (hN : oi.dst = some N:=by rfl) (hc : (nS T.2 l.toList == [i] && l.toList.set i true == l'.toList) = true:=by kernel_rfl) (hd : i ∉ ds:=by decide)
    (hw : Region.wanted oi (yielded ops a.tmps) = true:=by rfl) (hrun : (execOp a.eval oi).run P w = .ok (.value v) w:=by (go_simp;with_reducible rfl))
    (ha : a.put (some N) v = a':=by (simp only [Act.put,ls,lz,ln,bZ,dO];rfl)) : bP P .any ops Q S ds (fuel + 1) l a w:=by
  subst ha
  exact ow l' hi hN (jK HT.out hc) hd (fun K hK=>qp hw hN hrun (hK.out _ _ hS (fun _=>h)))
end
instance Up.J7 (w0 w : World) (n : Nat) (a b : Addr) (v u : Value) [q : Up w0 ((w.setCell a v).setCell b u)] : Up w0 (((w.drewN n).setCell a v).setCell b u):=⟨⟨q.up.os,q.up.tape,q.up.output,q.up.size,q.up.block⟩⟩
instance Up.J8 (w0 w : World) (n : Nat) (a b c : Addr) (v u x : Value) [q : Up w0 (((w.setCell a v).setCell b u).setCell c x)] : Up w0 ((((w.drewN n).setCell a v).setCell b u).setCell c x):=⟨⟨q.up.os,q.up.tape,q.up.output,q.up.size,q.up.block⟩⟩
/- More short forms of what the printed walks spell out; no condition. -/
/-- The block k is not the row v's own. -/
abbrev ax (k : Nat) (v : Value) : Prop:=some k ≠ v.ownBlock
theorem bc {w : World} {g : Nat} {t : TypeId} {cs : Array Value} (h : au (w.heap[g]? = some (.cells cs t (0,0)))) (i : Nat) {v : Value} (hv : cs[i]? = some v:=by rfl) : w.cell? ⟨g,i,none⟩ = some v:=(aY h.out i).trans hv
theorem bcu {w0 w : World} {g : Nat} {t : TypeId} {cs : Array Value} (h : au (w0.heap[g]? = some (.cells cs t (0,0)))) (i : Nat) {v : Value} [u : Up w0 w] (hv : cs[i]? = some v:=by rfl) : w.cell? ⟨g,i,none⟩ = some v:=(aY (uB h.out) i).trans hv
theorem bf {w : World} {g : Nat} {t : TypeId} {cs : Array Value} (h : au (w.heap[g]? = some (.cells cs t (0,0)))) (i : Nat) : w.frozen? ⟨g,i,none⟩ = false:=kY h.out i
theorem gq {b w w0 : World} {g : Nat} (HB : au (Below b.heap.size b w0)) (hg : g = w.heap.size) [u : UpS b.heap.size w0 w] : au (b.heap.size ≤ g):=⟨by rw [hg];exact dw (u.up rfl HB.out)⟩
theorem hc {b w : World} {p : Addr} {v : Value} (HB : au (Below b.heap.size b w)) (h : b.cell? p = some v) : w.cell? p = some v:=(HB.out.cell (World.block_lt_of_cell? b p h)).trans h
theorem hcu {b w0 w : World} {p : Addr} {v : Value} (HB : au (Below b.heap.size b w0)) (h : b.cell? p = some v) [u : UpS b.heap.size w0 w] : w.cell? p = some v:=((u.up rfl HB.out).cell (World.block_lt_of_cell? b p h)).trans h
section
variable {P : Program} {ops : Array Oper} {Q : Exit → Act → World → Prop} {rest : List Oper} {oi : Oper} {a : Act} {w : World} {f : FuncId} {fn : Func} {az : Array Operand} {ts : Array TypeId}
theorem gL (N : Option Tmp) (hf : P.funcs[f]? = some fn) (args : Array Value) (h : Calls P f args w fun e w'=>∃ v,e = .returned v∧wpList P ops Q rest (a.put N v) w')
    (hd : oi.dst = N := by rfl) (hg : oi.guard = none := by rfl) (hname : (fn.name == "runtime.NumGoroutine") = false := by kernel_rfl) (hb : fn.body.isSome = true := by rfl)
    (hop : oi.op = .call { callee:=.value (.func f),args:=az,argTypes:=ts }:=by rfl) (hargs : az.map a.eval = args:=by ((try simp only [la,lb,lc]);first | done | rfl | (simp only [ld,le];rfl))) : wpList P ops Q (oi :: rest) a w :=
  oQ N hd hg hf hname hb args hop hargs h
theorem bx (N : Tmp) (cs : Array Value) (t : TypeId) (h : ∀ g,g = w.heap.size → ∀ w1,w1.heap[g]? = some (.cells cs t (0,0)) → Below w.heap.size w w1 → wpList P ops Q rest (a.put oi.dst (.pointer (some ⟨g,0,none⟩))) w1)
    (hd : oi.dst = some N:=by rfl) (hg : oi.guard = none:=by rfl)
    (hr : (execOp a.eval oi).run P w = .ok (.value (.pointer (some ⟨w.heap.size,0,none⟩))) (w.alloc (.cells cs t (0,0))):=by first | (go_simp;done) | (go_simp;rfl)) : wpList P ops Q (oi :: rest) a w :=
  Ey hg hd hr h
theorem gS {N : Option Tmp} {K : Act → World → Prop} (hf : P.funcs[f]? = some fn) (args : Array Value) (h : Calls P f args w fun e w'=>∃ v,e = .returned v∧K (a.put N v) w')
    (hname : (fn.name == "runtime.NumGoroutine") = false := by kernel_rfl) (hb : fn.body.isSome = true := by rfl) (hw : Region.wanted oi (yielded ops a.tmps) = true := by rfl) (hN : oi.dst = N := by rfl)
    (hop : oi.op = .call { callee:=.value (.func f),args:=az,argTypes:=ts }:=by rfl) (hargs : az.map a.eval = args:=by ((try simp only [la,lb,lc]);first | done | rfl | (simp only [ld,le];rfl))) : if Region.wanted oi (yielded ops a.tmps) = true then Oper.wp P oi a w K Q else K (a.put N undef) w :=
  nE hf hname hb args hw hN hop hargs h
end
/-- One step back: a new block, or drawn numbers. -/
class Up1 (w : outParam World) (w1 : World) : Prop where
  up : Below w.heap.size w w1
instance Up1.alloc (w : World) (o : Obj) : Up1 w (w.alloc o):=⟨gp (Below.refl _ _) o⟩
instance Up1.drew (w : World) : Up1 w w.drew:=⟨aK (Below.refl _ _)⟩
instance Up1.drewN (w : World) (n : Nat) : Up1 w (w.drewN n):=⟨fu (Below.refl _ _) n⟩
theorem up1 {w w1 : World} {g : Nat} {o : Obj} [u : Up1 w w1] (h : w.heap[g]? = some o) : w1.heap[g]? = some o:=aX h u.up
section
variable {α : Type} {d : Kd α} {e base g t : Nat} {ok : Nat → Prop} {w : World} {v : Value} {xs : List α} {cells : Array Value}
theorem rf3 (h : au (d.R e w base ok v xs)) (hb : au (w.heap[g]? = some (.cells cells t (0,0)))) (ht : ∀ q,q ∈ e :: d.E → q ≠ t) (a b c : Value) : d.R e (((w.setCell ⟨g,0,none⟩ a).setCell ⟨g,1,none⟩ b).setCell ⟨g,2,none⟩ c) base ok v xs :=
  Kd.aA (Kd.aT (p:=⟨g,2,none⟩) (Kd.aT (p:=⟨g,1,none⟩) (Kd.aT (p:=⟨g,0,none⟩) (Kd.bE h.out hb.out ht) (fun _ hk=>hk.2) a) (fun _ hk=>hk.2) b) (fun _ hk=>hk.2) c) (fun _ hk=>hk.1)
end
/- Short forms of rows that a great law's printed walk tells again and again; no condition. -/
section
variable {α β γ : Type} {d : Kd α} {d0 : Kd β} {d1 : Kd γ} {e e0 e1 base b0 : Nat} {ok ok0 ok1 : Nat → Prop} {W w w1 : World} {u v v0 v1 : Value} {xs : List α} {xs0 : List β} {xs1 : List γ}
theorem td2 (hu : d.R e W base ok u xs) (hb : Below W.heap.size W w1) (h0 : d0.R e0 w1 W.heap.size ok0 v0 xs0) (h1 : d1.R e1 w1 W.heap.size ok1 v1 xs1) : au (d.R e w1 base (fun k=>(ok k∧some k ≠ v0.ownBlock)∧some k ≠ v1.ownBlock) u xs) :=
  zA (Kd.aA (Kd.lU (Kd.lU (Kd.KZ hu hb) (Kd.dQ h0)) (Kd.dQ h1)) (fun _ h=>h.1))
theorem nw (h : d.R e w1 W.heap.size ok v xs) (h' : d0.R e0 W b0 ok0 u xs0) : d.R e w1 W.heap.size (fun k=>ok k∧some k ≠ u.ownBlock) v xs:=Kd.JU h (Kd.kI h')
theorem rc {A : Option Addr} {n c : Nat} (h : d.R e w base ok (.slice A n c) xs) : d.C w A xs.length xs:=(Kd.dN h).2.2
end
set_option maxHeartbeats 8000000
set_option maxRecDepth 100000
/-! ### eO: function 92 -/
def eO.f (l0 : List Int) : Option (Int):=some (l0.length : Int)
theorem eO.calls (A0 : Option Addr) (c0 : Nat) (l0 : List Int) (r : Int) (w : World) (aa : Kd.C (Kd.int .i64) w A0 l0.length l0) (ba : l0.length ≤ c0) (H : eO.f l0 = some r) :
  Calls Try.prog 92 #[.slice A0 l0.length c0] w fun e w'=>e = .returned (.int .i64 r)∧aQ w w':=by
 have ca:=zA aa;have da:=zA ba;clear aa ba;unfold eO.f at H;obtain rfl:=Option.some.inj H;go_enter Try.func92,Try.ntmps92;go_wp2;go_ret;exact ⟨by first | rfl | (simp;done) | (simp [*];done),by repeat (first | exact aQ.refl _ | apply aQ.step)⟩
/-! ### mM: function 6 -/
def mM.f (l0 : List Int) : Option (Bool):=some (decide ((l0.length : Int) > 4096))
theorem mM.calls (A0 : Option Addr) (c0 : Nat) (l0 : List Int) (r : Bool) (w : World) (aa : Kd.C (Kd.int .u8) w A0 l0.length l0) (ba : l0.length ≤ c0) (H : mM.f l0 = some r) :
  Calls Try.prog 6 #[.slice A0 l0.length c0] w fun e w'=>e = .returned (.bool r)∧aQ w w':=by
 have ca:=zA aa;have da:=zA ba;clear aa ba;unfold mM.f at H;obtain rfl:=Option.some.inj H;go_enter Try.func6,Try.ntmps6;go_wp2;go_ret;exact ⟨by first | rfl | (simp;done) | (simp [*];done),by repeat (first | exact aQ.refl _ | apply aQ.step)⟩
/- Steps that stand in for tactics told again and again: the proofs are found where the lemma is called. -/
theorem eX {α : Type} {a b : α} (h : a = b:=by first | rfl | (simp [errW_none,errW_some] <;> rfl) | (simp [*,errW_none,errW_some] <;> rfl)) : a = b:=h
theorem eS {α : Type} {a b : α} (h : a = b:=by first | rfl | (simp;done) | (simp [*];done)) : a = b:=h
section
variable {α : Type} {d : Kd α} {e base : Nat} {ok : Nat → Prop} {w W : World} {v : Value} {xs : List α}
theorem uV {w0 : World} (h : Kd.V d e w0 base ok v xs) [u : Up w0 w] : Kd.V d e w base ok v xs:=Kd.jE h u.up
theorem uN {w0 : World} (h : Kd.N d e w0 base ok v xs) [u : Up w0 w] : Kd.N d e w base ok v xs:=Kd.mR h u.up
theorem nB {b : World} (hw : W = w) (h : Below b.heap.size b w) : au (Below b.heap.size b W):=by subst hw;exact zA h
end
/- Steps that take a told equation apart: a condition that must hold, one of two ways, an answer bound; no condition. -/
section
variable {α β : Type} {P : Prop} [Decidable P] {x y : Option α} {r : α}
theorem gI (h : (if P then x else y) = some r) : (¬ P∧y = some r) ∨ (P∧x = some r):=by
  by_cases c : P
  · exact .inr ⟨c,by rwa [if_pos c] at h⟩
  · exact .inl ⟨c,by rwa [if_neg c] at h⟩
theorem gN (h : (if P then x else none) = some r) : P∧x = some r:=by
  rcases gI h with ⟨_,h⟩ | h
  · cases h
  · exact h
theorem gD (h : (if P then x else none) = some r) : decide P = true∧x = some r:=⟨decide_eq_true (gN h).1,(gN h).2⟩
theorem gZ (h : (if P then x else none) = some r) : au P∧x = some r:=⟨⟨(gN h).1⟩,(gN h).2⟩
theorem gF (h : (if P then x else y) = some r) : (decide P = false∧y = some r) ∨ (decide P = true∧x = some r) :=
  (gI h).imp (fun h=>⟨decide_eq_false h.1,h.2⟩) (fun h=>⟨decide_eq_true h.1,h.2⟩)
theorem gE {γ : Type} [BEq γ] [LawfulBEq γ] {a b : γ} [Decidable (a = b)] (h : (if a = b then x else y) = some r) : (¬ a = b∧(a == b) = false∧(a != b) = true∧y = some r) ∨ (a = b∧(a == b) = true∧(a != b) = false∧x = some r) :=
  (gI h).imp (fun h=>⟨h.1,beq_eq_false_iff_ne.mpr h.1,bne_iff_ne.mpr h.1,h.2⟩) (fun h=>⟨h.1,beq_iff_eq.mpr h.1,bne_eq_false_iff_eq.mpr h.1,h.2⟩)
theorem gB {t : Bool} (h : (if t = true then x else y) = some r) : (t = true∧x = some r) ∨ (t = false∧y = some r):=by
  cases t
  · exact .inr ⟨rfl,h⟩
  · exact .inl ⟨rfl,h⟩
theorem oD (h : decide P = true:=by first | (with_reducible assumption) | assumption) : P:=of_decide_eq_true h
end
section
variable {α β : Type} {r : α}
theorem bO {x : Option β} {f : β → Option α} (h : x.bind f = some r) : ∃ a,au (x = some a)∧f a = some r:=by
  obtain ⟨a,h1,h2⟩:=Option.bind_eq_some_iff.mp h
  exact ⟨a,⟨h1⟩,h2⟩
theorem bS {e : β} {f : β → Option α} (h : (some e).bind f = some r) : ∃ y,au (y = e)∧f y = some r:=⟨e,⟨rfl⟩,h⟩
theorem eY (e : β) : ∃ y,au (y = e):=⟨e,⟨rfl⟩⟩
end
/-! ### fE: function 156 -/
def fE.f (a0 : Int) (aa : (Int → Option Bool)) : Option (Bool):=(aa a0).bind fun ba=>(some (!ba))
theorem fE.calls (a0 : Int) (ea : Nat) (Gr : Value) (aa : (Int → Option Bool)) (r : Bool) (w : World) (hb1 : w.heap[ea]? = some (.cells #[Gr] 95 (0,0))) (tq : FnI Try.prog w Gr aa) (H : fE.f a0 aa = some r) :
  Calls Try.prog 156 #[.int .i64 a0,.pointer (some ⟨ea,0,none⟩)] w fun e w'=>e = .returned (.bool r)∧Below w.heap.size w w':=by
 obtain ⟨CF,Gs,Gt,rfl,wS,tq⟩:=tq;have wS : ∀ (args_ : Array Value) (w_ : World),(callFunc CF args_).run Try.prog w_ = .ok (.enter CF args_) w_:=wS;have Gu:=zA tq;clear tq;have ba:=zA hb1;clear hb1;have HB:=zA (Below.refl w.heap.size w);unfold fE.f at H;replace H:=bO H;obtain ⟨fa,A3,H⟩:=H;obtain rfl:=Option.some.inj H;have ca:=bc ba 0;have da:=bf ba 0;go_enter Try.func156,Try.ntmps156;go_wp2_with (first | (go_at_fn CF;refine dS (args':=Gs ++ #[.int .i64 a0] ++ Gt) (by simp) ?_;refine (Gu.out a0 _ A3.out _ (uH HB.out)).mono ?_;rintro e w5 ⟨rfl,hb⟩;replace ba:=xB ba hb;replace HB:=xH HB hb;(try clear hb)));go_ret;exact ⟨eX,uH HB.out⟩
/-! ### fI: function 161 -/
def fI.f (l0 : List Int) (aa : (List Int → Option Bool)) : Option (Bool):=(aa l0).bind fun ba=>(some (!ba))
theorem fI.calls (A0 : Option Addr) (c0 : Nat) (l0 : List Int) (ea : Nat) (Gr : Value) (aa : (List Int → Option Bool)) (r : Bool) (w : World) (fa : Kd.C (Kd.int .i64) w A0 l0.length l0) (ga : l0.length ≤ c0) (hb1 : w.heap[ea]? = some (.cells #[Gr] 106 (0,0))) (tq : FnL Try.prog w Gr aa) (H : fI.f l0 aa = some r) :
  Calls Try.prog 161 #[.slice A0 l0.length c0,.pointer (some ⟨ea,0,none⟩)] w fun e w'=>e = .returned (.bool r)∧Below w.heap.size w w':=by
 have ha:=zA fa;have ia:=zA ga;clear fa ga;obtain ⟨CF,Gs,Gt,rfl,wS,tq⟩:=tq;have wS : ∀ (args_ : Array Value) (w_ : World),(callFunc CF args_).run Try.prog w_ = .ok (.enter CF args_) w_:=wS;have Gu:=zA tq;clear tq;have ba:=zA hb1;clear hb1;have HB:=zA (Below.refl w.heap.size w);unfold fI.f at H;replace H:=bO H;obtain ⟨ja,A3,H⟩:=H;obtain rfl:=Option.some.inj H;have ca:=bc ba 0;have da:=bf ba 0;go_enter Try.func161,Try.ntmps161;go_wp2_with (first | (go_at_fn CF;refine dS (args':=Gs ++ #[.slice A0 l0.length c0] ++ Gt) (by simp) ?_;refine (Gu.out l0 _ _ _ A3.out _ (uH HB.out) (by exact uC ha.out) (by exact ia.out)).mono ?_;rintro e w5 ⟨rfl,hb⟩;replace ba:=xB ba hb;replace HB:=xH HB hb;(try clear hb)));go_ret;exact ⟨eX,uH HB.out⟩
/-! ### fP: function 85 -/
def fP.f (l0 : List Int) : Option (Int):=(eO.f l0).bind fun aa=>(some (wrap64 (aa - 1)))
theorem fP.calls (A0 : Option Addr) (c0 : Nat) (l0 : List Int) (r : Int) (w : World) (da : Kd.C (Kd.int .i64) w A0 l0.length l0) (ea : l0.length ≤ c0) (H : fP.f l0 = some r) :
  Calls Try.prog 85 #[.slice A0 l0.length c0] w fun e w'=>e = .returned (.int .i64 r)∧aQ w w':=by
 have fa:=zA da;have ga:=zA ea;clear da ea;unfold fP.f at H;replace H:=bO H;obtain ⟨ca,A2,H⟩:=H;obtain rfl:=Option.some.inj H;go_enter Try.func85,Try.ntmps85;go_wp2_with (first | ((with_reducible refine av (f:=92) rfl ?_);refine gL (some 4) Try.func92 #[.slice A0 l0.length c0] ?_;(with_reducible refine (eO.calls _ _ l0 ca _ ?aa ?ba A2.out).mono ?_);(case aa=>exact uC fa.out);(case ba=>exact ga.out);rintro e w' ⟨rfl,⟨nd,rfl⟩⟩;refine ⟨_,rfl,?_⟩));go_ret;exact ⟨by first | rfl | (simp;done) | (simp [*];done),by repeat (first | exact aQ.refl _ | apply aQ.step)⟩
/-! ### cz: function 121 -/
def cz.f (a0 : Int) (a1 : Int) : Option (Bool):=if a1 ≥ 0 then (some (decide (a1 < a0))) else (some false)
theorem cz.calls (a0 : Int) (a1 : Int) (r : Bool) (w : World) (H : cz.f a0 a1 = some r) :
  Calls Try.prog 121 #[.int .i64 a0,.int .i64 a1] w fun e w'=>e = .returned (.bool r)∧aQ w w':=by
 unfold cz.f at H;replace H:=gI H;obtain ⟨c3,H⟩|⟨c3,H⟩:=H
 ·have aa : decide (0 ≤ a1) = false:=decide_eq_false c3;clear c3;obtain rfl:=Option.some.inj H;go_enter Try.func121,Try.ntmps121;go_wp2;go_ret;exact ⟨by first | rfl | (simp;done) | (simp [*];done),by repeat (first | exact aQ.refl _ | apply aQ.step)⟩
 have aa : decide (0 ≤ a1) = true:=decide_eq_true c3;clear c3;obtain rfl:=Option.some.inj H;go_enter Try.func121,Try.ntmps121;go_wp2;go_ret;exact ⟨by first | rfl | (simp;done) | (simp [*];done),by repeat (first | exact aQ.refl _ | apply aQ.step)⟩
/-! ### bM: function 94 -/
def bM.f (a0 : Int) (a1 : Int) : Option (Int):=if a0 = 0 then (none) else (some (Int.tmod (wrap64 ((Int.tmod a1 a0) + a0)) a0))
theorem bM.calls (a0 : Int) (a1 : Int) (r : Int) (w : World) (H : bM.f a0 a1 = some r) :
  Calls Try.prog 94 #[.int .i64 a0,.int .i64 a1] w fun e w'=>e = .returned (.int .i64 r)∧aQ w w':=by
 unfold bM.f at H;replace H:=gI H;obtain ⟨c3,H⟩|⟨c3,H⟩:=H
 ·have aa : (a0 == 0) = false:=beq_eq_false_iff_ne.mpr c3;have ba : (a0 != 0) = true:=bne_iff_ne.mpr c3;obtain rfl:=Option.some.inj H;go_enter Try.func94,Try.ntmps94;go_wp2;go_ret;exact ⟨by first | rfl | (simp;done) | (simp [*];done),by repeat (first | exact aQ.refl _ | apply aQ.step)⟩
 exact absurd H (by simp)
/-! ### dZ: function 122 -/
def dZ.f (a0 : Int) (a1 : Int) (a2 : Int) : Option (Int):=(bM.f a0 (wrap64 (a1 * a2))).bind fun aa=>(some aa)
theorem dZ.calls (a0 : Int) (a1 : Int) (a2 : Int) (r : Int) (w : World) (H : dZ.f a0 a1 a2 = some r) :
  Calls Try.prog 122 #[.int .i64 a0,.int .i64 a1,.int .i64 a2] w fun e w'=>e = .returned (.int .i64 r)∧aQ w w':=by
 unfold dZ.f at H;replace H:=bO H;obtain ⟨aa,A4,H⟩:=H;obtain rfl:=Option.some.inj H;go_enter Try.func122,Try.ntmps122;go_wp2_with (first | ((with_reducible refine av (f:=94) rfl ?_);refine gL (some 11) Try.func94 #[.int .i64 a0,.int .i64 (wrap64 (a1 * a2))] ?_;(with_reducible refine (bM.calls a0 (wrap64 (a1 * a2)) aa _ A4.out).mono ?_);rintro e w' ⟨rfl,⟨nd,rfl⟩⟩;refine ⟨_,rfl,?_⟩));go_ret;exact ⟨by first | rfl | (simp;done) | (simp [*];done),by repeat (first | exact aQ.refl _ | apply aQ.step)⟩
/-! ### gG: function 113 -/
def gG.f (l0 : List Int) : Option (Bool):=if (l0.length : Int) > 0 then (if 0 ≤ (wrap64 ((l0.length : Int) - 1)) then (if (wrap64 ((l0.length : Int) - 1)) < (l0.length : Int) then (some ((rd l0 (wrap64 ((l0.length : Int) - 1))) == 1)) else (none)) else (none)) else (some false)
theorem gG.calls (A0 : Option Addr) (c0 : Nat) (l0 : List Int) (r : Bool) (w : World) (ja : Kd.C (Kd.int .i64) w A0 l0.length l0) (ka : l0.length ≤ c0) (H : gG.f l0 = some r) :
  Calls Try.prog 113 #[.slice A0 l0.length c0] w fun e w'=>e = .returned (.bool r)∧aQ w w':=by
 have na:=zA ja;have qa:=zA ka;clear ja ka;unfold gG.f at H;replace H:=gI H;obtain ⟨c2,H⟩|⟨c2,H⟩:=H
 ·have ga : decide (0 < (l0.length : Int)) = false:=decide_eq_false c2;have ha : decide (0 < l0.length) = false:=decide_eq_false (by omega);clear c2;obtain rfl:=Option.some.inj H;go_enter Try.func113,Try.ntmps113;go_wp2;go_ret;exact ⟨by first | rfl | (simp;done) | (simp [*];done),by repeat (first | exact aQ.refl _ | apply aQ.step)⟩
 have ga : decide (0 < (l0.length : Int)) = true:=decide_eq_true c2;have ha : decide (0 < l0.length) = true:=decide_eq_true (by omega);clear c2;obtain ⟨fa,ca⟩ : ∃ j_ : Int,(wrap64 ((l0.length : Int) - 1)) = j_:=⟨_,rfl⟩;(first | rw [ca] at H | simp only [ca] at H);have ma : (IntKind.i64.wrap ((l0.length : Int) - 1)) = fa:=(bZ _).trans ca;replace H:=gD H;obtain ⟨oa,H⟩:=H;replace H:=gD H;obtain ⟨pa,H⟩:=H;obtain rfl:=Option.some.inj H;have aa : 0 ≤ ((fa) : Int):=oD;have ba : (fa) < (l0.length : Int):=oD;obtain ⟨ia,da,ea⟩:=Kd.dI na.out (fa) aa ba;cases da;replace aa:=eq_true aa;replace ba:=eq_true ba;go_enter Try.func113,Try.ntmps113;go_wp2;go_ret;exact ⟨by first | rfl | (simp;done) | (simp only [← ca] <;> (first | rfl | simp)) | (simp [*];done),by repeat (first | exact aQ.refl _ | apply aQ.step)⟩
/-! ### dB: function 74 -/
def dB.f (a0 : Int) (a1 : Int) (a2 : Int) : Option (Bool):=if a1 ≤ a0 then (some (decide (a0 ≤ a2))) else (some false)
theorem dB.calls (a0 : Int) (a1 : Int) (a2 : Int) (r : Bool) (w : World) (H : dB.f a0 a1 a2 = some r) :
  Calls Try.prog 74 #[.int .i64 a0,.int .i64 a1,.int .i64 a2] w fun e w'=>e = .returned (.bool r)∧aQ w w':=by
 unfold dB.f at H;replace H:=gF H;obtain ⟨aa,H⟩|⟨aa,H⟩:=H
 ·obtain rfl:=Option.some.inj H;go_enter Try.func74,Try.ntmps74;go_wp2;go_ret;exact ⟨by first | rfl | (simp;done) | (simp [*];done),by repeat (first | exact aQ.refl _ | apply aQ.step)⟩
 obtain rfl:=Option.some.inj H;go_enter Try.func74,Try.ntmps74;go_wp2;go_ret;exact ⟨by first | rfl | (simp;done) | (simp [*];done),by repeat (first | exact aQ.refl _ | apply aQ.step)⟩
/-! ### bW: function 112 -/
def bW.f (a0 : Int) (a1 : Int) : Option (Bool):=(dB.f a1 1 (wrap64 (a0 - 1))).bind fun aa=>(some aa)
theorem bW.calls (a0 : Int) (a1 : Int) (r : Bool) (w : World) (H : bW.f a0 a1 = some r) :
  Calls Try.prog 112 #[.int .i64 a0,.int .i64 a1] w fun e w'=>e = .returned (.bool r)∧aQ w w':=by
 unfold bW.f at H;replace H:=bO H;obtain ⟨aa,A3,H⟩:=H;obtain rfl:=Option.some.inj H;go_enter Try.func112,Try.ntmps112;go_wp2_with (first | ((with_reducible refine av (f:=74) rfl ?_);refine gL (some 8) Try.func74 #[.int .i64 a1,.int .i64 1,.int .i64 (wrap64 (a0 - 1))] ?_;(with_reducible refine (dB.calls a1 1 (wrap64 (a0 - 1)) aa _ A3.out).mono ?_);rintro e w' ⟨rfl,⟨nd,rfl⟩⟩;refine ⟨_,rfl,?_⟩));go_ret;exact ⟨by first | rfl | (simp;done) | (simp [*];done),by repeat (first | exact aQ.refl _ | apply aQ.step)⟩
/-! ### d9: function 77 -/
def d9.f (a0 : Int) (a1 : Int) (a2 : Int) : Option (Bool):=if a0 ≥ a1 then (some (decide (a0 ≤ a2))) else (some false)
theorem d9.calls (a0 : Int) (a1 : Int) (a2 : Int) (r : Bool) (w : World) (H : d9.f a0 a1 a2 = some r) :
  Calls Try.prog 77 #[.int .i64 a0,.int .i64 a1,.int .i64 a2] w fun e w'=>e = .returned (.bool r)∧aQ w w':=by
 unfold d9.f at H;replace H:=gI H;obtain ⟨c4,H⟩|⟨c4,H⟩:=H
 ·have aa : decide (a1 ≤ a0) = false:=decide_eq_false c4;clear c4;obtain rfl:=Option.some.inj H;go_enter Try.func77,Try.ntmps77;go_wp2;go_ret;exact ⟨by first | rfl | (simp;done) | (simp [*];done),by repeat (first | exact aQ.refl _ | apply aQ.step)⟩
 have aa : decide (a1 ≤ a0) = true:=decide_eq_true c4;clear c4;obtain rfl:=Option.some.inj H;go_enter Try.func77,Try.ntmps77;go_wp2;go_ret;exact ⟨by first | rfl | (simp;done) | (simp [*];done),by repeat (first | exact aQ.refl _ | apply aQ.step)⟩
/-! ### fB: function 119 -/
def fB.f (a0 : Int) (a1 : Int) : Option (Int):=if a0 = 0 then (none) else (some (Int.tmod (wrap64 ((Int.tmod a1 a0) + a0)) a0))
theorem fB.calls (a0 : Int) (a1 : Int) (r : Int) (w : World) (H : fB.f a0 a1 = some r) :
  Calls Try.prog 119 #[.int .i64 a0,.int .i64 a1] w fun e w'=>e = .returned (.int .i64 r)∧aQ w w':=by
 unfold fB.f at H;replace H:=gI H;obtain ⟨c3,H⟩|⟨c3,H⟩:=H
 ·have aa : (a0 == 0) = false:=beq_eq_false_iff_ne.mpr c3;have ba : (a0 != 0) = true:=bne_iff_ne.mpr c3;obtain rfl:=Option.some.inj H;go_enter Try.func119,Try.ntmps119;go_wp2;go_ret;exact ⟨by first | rfl | (simp;done) | (simp [*];done),by repeat (first | exact aQ.refl _ | apply aQ.step)⟩
 exact absurd H (by simp)
/-! ### gT: function 118 -/
def gT.f (l0 : List Int) (a1 : Int) : Option (Bool):=if (l0.length : Int) = (wrap64 (a1 + 1)) then (if 0 ≤ a1 then (if a1 < (l0.length : Int) then (some ((rd l0 a1) == 1)) else (none)) else (none)) else (some false)
theorem gT.calls (A0 : Option Addr) (c0 : Nat) (l0 : List Int) (a1 : Int) (r : Bool) (w : World) (ha : Kd.C (Kd.int .i64) w A0 l0.length l0) (ia : l0.length ≤ c0) (H : gT.f l0 a1 = some r) :
  Calls Try.prog 118 #[.slice A0 l0.length c0,.int .i64 a1] w fun e w'=>e = .returned (.bool r)∧aQ w w':=by
 have ja:=zA ha;have na:=zA ia;clear ha ia;unfold gT.f at H;replace H:=gE H;obtain ⟨c3,ea,fa,H⟩|⟨c3,ea,fa,H⟩:=H
 ·obtain rfl:=Option.some.inj H;go_enter Try.func118,Try.ntmps118;go_wp2;go_ret;exact ⟨by first | rfl | (simp;done) | (simp [*];done),by repeat (first | exact aQ.refl _ | apply aQ.step)⟩
 clear c3;replace H:=gD H;obtain ⟨ka,H⟩:=H;replace H:=gD H;obtain ⟨ma,H⟩:=H;obtain rfl:=Option.some.inj H;have aa : 0 ≤ (a1 : Int):=oD;have ba : a1 < (l0.length : Int):=oD;obtain ⟨ga,ca,da⟩:=Kd.dI ja.out a1 aa ba;cases ca;replace aa:=eq_true aa;replace ba:=eq_true ba;go_enter Try.func118,Try.ntmps118;go_wp2;go_ret;exact ⟨by first | rfl | (simp;done) | (simp [*];done),by repeat (first | exact aQ.refl _ | apply aQ.step)⟩
/- Short forms of arms that a walk tells again and again: a box, an empty list, blocks that differ, blocks that stay; no condition. -/
section
variable {P : Program} {ops : Array Oper} {Q : Exit → Act → World → Prop} {rest : List Oper} {oi : Oper} {a : Act} {w : World}
theorem bX (N : Tmp) (hd : oi.dst = some N) (cs : Array Value) (t : TypeId) (h : ∀ g w1,g = w.heap.size → au (w1.heap[g]? = some (.cells cs t (0,0))) → Below w.heap.size w w1 → wpList P ops Q rest (a.put oi.dst (.pointer (some ⟨g,0,none⟩))) w1)
    (hg : oi.guard = none:=by rfl)
    (hr : (execOp a.eval oi).run P w = .ok (.value (.pointer (some ⟨w.heap.size,0,none⟩))) (w.alloc (.cells cs t (0,0))):=by first | (go_simp;done) | (go_simp;rfl)) : wpList P ops Q (oi :: rest) a w :=
  bx N cs t (fun g e w1 hb hB=>h g w1 e ⟨hb⟩ hB) hd hg hr
theorem lN (e : TypeId) (N : Tmp) (hd : oi.dst = some N) {y : List Int} (hy : au (y = [])) (h : ∀ v w1,(Kd.int .i64).R e w1 w.heap.size (fun _=>True) v y → Below w.heap.size w w1 → wpList P ops Q rest (a.put oi.dst v) w1)
    (hg : oi.guard = none:=by rfl)
    (hr : (execOp a.eval oi).run P w = .ok (.value (.slice (some ⟨w.heap.size,0,none⟩) ([] : List Int).length ([] : List Int).length)) (w.alloc (.cells ([] : List Value).toArray e)):=by first | (go_simp;done) | (go_simp;rfl)) : wpList P ops Q (oi :: rest) a w :=
  Kd.Ar (Kd.int .i64) _ e hg hd (xs:=([] : List Int)) (inner:=[]) (ok:=fun _=>True) (okp:=fun _=>True) hr (iW.none _ _) (fun _ hk=>hk) trivial (Below.refl _ _) (Nat.le_refl _) (by simp) (fun v w1 ho hb _ _=>h v w1 (by rw [hy.out];exact ho) hb)
end
section
variable {w0 w W w1 : World} {g g' : Nat} {o : Obj}
theorem nL (h : au (w0.heap[g]? = some o)) (hg : g' = w.heap.size) [Up w0 w] : au (g ≠ g'):=⟨by rw [hg];exact neL h⟩
theorem nG (h : au (w0.heap[g]? = some o)) (hg : g' = w.heap.size) [Up w0 w] : au (g' ≠ g):=⟨by rw [hg];exact neG h⟩
theorem kB (hk : aN W w1 g' none) (h : au (w0.heap[g]? = some o)) (hn : au (g ≠ g')) [Up w0 W] : au (w1.heap[g]? = some o):=zA (aN.blk hk (uB h.out) hn.out (by simp))
theorem kG {α : Type} {d : Kd α} {e base t : Nat} {ok : Nat → Prop} {v : Value} {xs : List α} {cs : Array Value} (hg : W.grownBy w1 v.ownBlock) (ho : au (d.R e w0 base ok v xs)) (h : au (w0.heap[g]? = some (.cells cs t (0,0)))) [Up w0 W] (ht : e ≠ t:=by decide) :
    au (w1.heap[g]? = some (.cells cs t (0,0))):=zA (tZ (uB h.out) hg (Kd.jC ho.out h.out ht))
end
/- Short forms, once more: what is kept beside a set of blocks, structs of three numbers' rows set at once, rows beside a source; no condition. -/
/-- A block that may be changed. -/
class SIn (b : Nat) (S : Nat → Prop) (k : Nat) : Prop where
  is : S k ∨ b ≤ k
instance SIn.one (b g : Nat) (P : Nat → Prop) : SIn b (fun k=>P k ∨ k = g) g:=⟨.inl (.inr rfl)⟩
instance SIn.far (b k : Nat) (S : Nat → Prop) [q : Geq b k] : SIn b S k:=⟨.inr q.geq⟩
class UpL (b : Nat) (S : Nat → Prop) (w0 w : World) : Prop where
  up : ∀ {w1 : World},b = w1.heap.size → Kept w1 w0 S → Kept w1 w S
instance UpL.refl (b : Nat) (S : Nat → Prop) (w : World) : UpL b S w w:=⟨fun _ h=>h⟩
instance UpL.alloc (b : Nat) (S : Nat → Prop) (w0 w : World) (o : Obj) [u : UpL b S w0 w] : UpL b S w0 (w.alloc o):=⟨fun e h=>Kept.alloc (u.up e h) o⟩
instance UpL.drew (b : Nat) (S : Nat → Prop) (w0 w : World) [u : UpL b S w0 w] : UpL b S w0 w.drew:=⟨fun e h=>Kept.drew (u.up e h)⟩
instance UpL.drewN (b : Nat) (S : Nat → Prop) (w0 w : World) (n : Nat) [u : UpL b S w0 w] : UpL b S w0 (w.drewN n):=⟨fun e h=>Kept.drewN (u.up e h) n⟩
instance UpL.setCell (b : Nat) (S : Nat → Prop) (w0 w : World) (k j : Nat) (v : Value) [u : UpL b S w0 w] [q : SIn b S k] : UpL b S w0 (w.setCell ⟨k,j,none⟩ v):=⟨by rintro w1 rfl h;exact Kept.setCell (u.up rfl h) q.is v⟩
section
variable {w w0 w1 w2 w' W : World} {g g' : Nat} {S : Nat → Prop}
theorem uL (h : Kept w W S) [u : UpL w.heap.size S W w'] : Kept w w' S:=u.up rfl h
theorem gH (h : au (Below w0.heap.size w0 W)) (hg : g = w.heap.size) [u : UpS w0.heap.size W w] : au (w0.heap.size ≤ g):=⟨by rw [hg];exact dw (uH h.out)⟩
theorem gM (h : au (Kept w0 W S)) (hg : g = w.heap.size) [u : UpL w0.heap.size S W w] : au (w0.heap.size ≤ g):=⟨by rw [hg];exact (uL (w':=w) h.out).1⟩
theorem cH {α : Type} {d : Kd α} {A : Option Addr} {n : Nat} {xs : List α} (h : au (d.C w A n xs)) (hb : au (Below w.heap.size w W)) [u : UpS w.heap.size W w'] : d.C w' A n xs:=Kd.kF h.out (uH hb.out)
end
section
variable {w b : World} {g g' t : Nat} {x y z x' y' z' : Value}
/-- All six facts of a struct's cells. -/
theorem b6 (h : au (w.heap[g]? = some (.cells #[x,y,z] t (0,0)))) : w.cell? ⟨g,0,none⟩ = some x∧w.cell? ⟨g,1,none⟩ = some y∧w.cell? ⟨g,2,none⟩ = some z∧w.frozen? ⟨g,0,none⟩ = false∧w.frozen? ⟨g,1,none⟩ = false∧w.frozen? ⟨g,2,none⟩ = false :=
  ⟨bc h 0,bc h 1,bc h 2,bf h 0,bf h 1,bf h 2⟩
theorem bp3 (h : au (w.heap[g]? = some (.cells #[x,y,z] t (0,0)))) (x' y' z' : Value) : au ((((w.setCell ⟨g,0,none⟩ x').setCell ⟨g,1,none⟩ y').setCell ⟨g,2,none⟩ z').heap[g]? = some (.cells #[x',y',z'] t (0,0))) :=
  zA (nA (cs:=#[x',y',z]) (nA (cs:=#[x',y,z]) (nA (cs:=#[x,y,z]) h.out 0 x' rfl) 1 y' rfl) 2 z' rfl)
theorem bg3 {cs : Array Value} (h : au (w.heap[g]? = some (.cells cs t (0,0)))) (hn : au (g ≠ g')) (x' y' z' : Value) : au ((((w.setCell ⟨g',0,none⟩ x').setCell ⟨g',1,none⟩ y').setCell ⟨g',2,none⟩ z').heap[g]? = some (.cells cs t (0,0))) :=
  zA (eD (eD (eD h.out (p:=⟨g',0,none⟩) hn.out x') (p:=⟨g',1,none⟩) hn.out y') (p:=⟨g',2,none⟩) hn.out z')
theorem bh3 (h : au (Below b.heap.size b w)) (g : Nat) [Geq b.heap.size g] (x' y' z' : Value) : au (Below b.heap.size b (((w.setCell ⟨g,0,none⟩ x').setCell ⟨g,1,none⟩ y').setCell ⟨g,2,none⟩ z')):=zA (uH h.out)
theorem pt3 (h : w.heap[g]? = some (.cells #[x,y,z] t (0,0))) : (((w.setCell ⟨g,0,none⟩ x').setCell ⟨g,1,none⟩ y').setCell ⟨g,2,none⟩ z').heap[g]? = some (.cells #[x',y',z'] t (0,0)):=(bp3 ⟨h⟩ x' y' z').out
theorem bk3 {cs : Array Value} (h : w.heap[g]? = some (.cells cs t (0,0))) (hn : au (g ≠ g')) : (((w.setCell ⟨g',0,none⟩ x').setCell ⟨g',1,none⟩ y').setCell ⟨g',2,none⟩ z').heap[g]? = some (.cells cs t (0,0)):=(bg3 ⟨h⟩ hn x' y' z').out
end
section
variable {α : Type} {d : Kd α} {e base g g' t t' : Nat} {ok : Nat → Prop} {w : World} {v : Value} {xs : List α} {cs cs' : Array Value}
/-- A row stays where two structs are set. -/
theorem rf6 (h : d.R e w base ok v xs) (hb : au (w.heap[g]? = some (.cells cs t (0,0)))) (hb' : au (w.heap[g']? = some (.cells cs' t' (0,0)))) (a b c a' b' c' : Value) (ht : ∀ q,q ∈ e :: d.E → q ≠ t:=by decide) (ht' : ∀ q,q ∈ e :: d.E → q ≠ t':=by decide) :
    d.R e ((((((w.setCell ⟨g,0,none⟩ a).setCell ⟨g,1,none⟩ b).setCell ⟨g,2,none⟩ c).setCell ⟨g',0,none⟩ a').setCell ⟨g',1,none⟩ b').setCell ⟨g',2,none⟩ c') base ok v xs :=
  Kd.aA (Kd.aT (p:=⟨g',2,none⟩) (Kd.aT (p:=⟨g',1,none⟩) (Kd.aT (p:=⟨g',0,none⟩) (Kd.aT (p:=⟨g,2,none⟩) (Kd.aT (p:=⟨g,1,none⟩) (Kd.aT (p:=⟨g,0,none⟩) (Kd.bE (Kd.bE h hb.out ht) hb'.out ht') (fun _ hk=>hk.1.2) a) (fun _ hk=>hk.1.2) b) (fun _ hk=>hk.1.2) c) (fun _ hk=>hk.2) a') (fun _ hk=>hk.2) b') (fun _ hk=>hk.2) c') (fun _ hk=>hk.1.1)
end
/-! ### dE: function 125 -/
def dE.l0 : Nat → Int → Int → Option (Bool)
 | 0,_,_=>none
 | k + 1,x0,x3=>if (wrap64 (x3 * x3)) ≤ x0 then (if x3 = 0 then (none) else (if (Int.tmod x0 x3) = 0 then (some false) else (dE.l0 k x0 (wrap64 (x3 + 1))))) else (some true)
def dE.f (k : Nat) (a0 : Int) : Option (Bool):=(dB.f a0 2 10007).bind fun aa=>(if aa = true then (dE.l0 k a0 2) else (some false))
theorem dE.calls (k : Nat) (a0 : Int) (r : Bool) (w : World) (H : dE.f k a0 = some r) :
  Calls Try.prog 125 #[.int .i64 a0] w fun e w'=>e = .returned (.bool r)∧aQ w w':=by
 unfold dE.f at H;replace H:=bO H;obtain ⟨fa,A2,H⟩:=H;replace H:=gB H;obtain ⟨rfl,H⟩|⟨rfl,H⟩:=H
 ·have H':=zA H;clear H;go_enter Try.func125,Try.ntmps125;go_wp2_with (first | ((with_reducible refine av (f:=74) rfl ?_);refine gL (some 5) Try.func74 #[.int .i64 a0,.int .i64 2,.int .i64 10007] ?_;(with_reducible refine (dB.calls a0 2 10007 true _ A2.out).mono ?_);rintro e w' ⟨rfl,⟨nd,rfl⟩⟩;refine ⟨_,rfl,?_⟩));go_loopg [3] k (fun kq v3 w'=>∃ (aa : Int),v3 = .int .i64 aa∧au (dE.l0 kq a0 aa = some r)∧au (kq ≤ k)∧aQ w w');(case atStart=>exact ⟨(2),eS,H',⟨Nat.le_refl _⟩,by repeat (first | exact aQ.refl _ | apply aQ.step)⟩)
  case round =>
   clear H';obtain ⟨aa,rfl,HA,ea,⟨m1,rfl⟩⟩:=hrel
   cases gk with
   | zero=>exact absurd HA.out (by simp [dE.l0])
   | succ k1 =>
    have H:=HA.out;clear HA;simp only [dE.l0] at H;replace H:=gF H;obtain ⟨ba,H⟩|⟨ba,H⟩:=H
    ·obtain rfl:=Option.some.inj H;go_wp2;go_ret;exact ⟨by first | rfl | (simp;done) | (simp [*];done),by repeat (first | exact aQ.refl _ | apply aQ.step)⟩
    replace H:=gI H;obtain ⟨c5,H⟩|⟨c5,H⟩:=H
    ·have ga : (aa == 0) = false:=beq_eq_false_iff_ne.mpr c5;have ha : (aa != 0) = true:=bne_iff_ne.mpr c5;replace H:=gE H;obtain ⟨c6,ca,da,H⟩|⟨c6,ca,da,H⟩:=H
     ·have H':=zA H;clear H;go_wp2;go_roundg k1;(case measure=>have:=ea.out;omega);(case rel=>exact ⟨(wrap64 (aa + 1)),eS,H',⟨by have:=ea.out;omega⟩,by repeat (first | exact aQ.refl _ | apply aQ.step)⟩)
     clear c6;obtain rfl:=Option.some.inj H;go_wp2;go_ret;exact ⟨by first | rfl | (simp;done) | (simp [*];done),by repeat (first | exact aQ.refl _ | apply aQ.step)⟩
    exact absurd H (by simp)
 ·obtain rfl:=Option.some.inj H;go_enter Try.func125,Try.ntmps125;go_wp2_with (first | ((with_reducible refine av (f:=74) rfl ?_);refine gL (some 5) Try.func74 #[.int .i64 a0,.int .i64 2,.int .i64 10007] ?_;(with_reducible refine (dB.calls a0 2 10007 false _ A2.out).mono ?_);rintro e w' ⟨rfl,⟨nd,rfl⟩⟩;refine ⟨_,rfl,?_⟩));go_ret;exact ⟨by first | rfl | (simp;done) | (simp [*];done),by repeat (first | exact aQ.refl _ | apply aQ.step)⟩
/-! ### bY: function 120 -/
def bY.f (aa : Int) (ba : List Int) (ca : List Int) : Option (Int):=some aa
theorem bY.calls (ga : Int) (ha : Option Addr) (ia : Nat) (aa : List Int) (ja : Option Addr) (ka : Nat) (ba : List Int) (r : Int) (w : World) (ca : Kd.C (Kd.int .i64) w ha aa.length aa) (da : aa.length ≤ ia) (ea : Kd.C (Kd.int .i64) w ja ba.length ba) (fa : ba.length ≤ ka) (H : bY.f ga aa ba = some r) :
  Calls Try.prog 120 #[.agg #[.int .i64 ga,.slice ha aa.length ia,.slice ja ba.length ka]] w fun e w'=>e = .returned (.int .i64 r)∧Below w.heap.size w w':=by
 have lL:=Try.underlying50;have pa:=zA ca;have qa:=zA da;clear ca da;have ra:=zA ea;have sa:=zA fa;clear ea fa;have HB:=zA (Below.refl w.heap.size w);unfold bY.f at H;obtain rfl:=Option.some.inj H;go_enter Try.func120,Try.ntmps120;go_wp2_with (first | ((with_reducible refine bz (N:=1) rfl ?_);refine bx 1 #[.int .i64 ga,.slice ha aa.length ia,.slice ja ba.length ka] 50 ?_;intro oa hg w2 hbox hb;have ma:=zA (hbox);have na:=gq HB hg;have:=geI na;replace HB:=xH HB hb;clear hb hbox hg;obtain ⟨_,_,_,_,_,_⟩:=b6 ma));go_ret;exact ⟨eX,uH HB.out⟩
/-! ### dG: function 126 -/
def dG.l0 : Nat → Int → Int → Int → Int → Option (Int)
 | 0,_,_,_,_=>none
 | k + 1,x0,x1,x2,x7=>if x2 > 0 then (if (Int.tmod x2 2) = 1 then ((dZ.f x0 x7 x1).bind fun aa=>((dZ.f x0 x1 x1).bind fun ba=>(dG.l0 k x0 ba (wrap64 (Int.tdiv x2 2)) aa))) else ((dZ.f x0 x1 x1).bind fun ca=>(dG.l0 k x0 ca (wrap64 (Int.tdiv x2 2)) x7))) else (some x7)
def dG.f (k : Nat) (a0 : Int) (a1 : Int) (a2 : Int) : Option (Int):=(bM.f a0 1).bind fun aa=>(dG.l0 k a0 a1 a2 aa)
theorem dG.calls (k : Nat) (a0 : Int) (a1 : Int) (a2 : Int) (r : Int) (w : World) (H : dG.f k a0 a1 a2 = some r) :
  Calls Try.prog 126 #[.int .i64 a0,.int .i64 a1,.int .i64 a2] w fun e w'=>e = .returned (.int .i64 r)∧aQ w w':=by
 unfold dG.f at H;replace H:=bO H;obtain ⟨da,A4,H⟩:=H;have H':=zA H;clear H;go_enter Try.func126,Try.ntmps126;go_wp2_with (first | ((with_reducible refine av (f:=94) rfl ?_);refine gL (some 9) Try.func94 #[.int .i64 a0,.int .i64 1] ?_;(with_reducible refine (bM.calls a0 1 da _ A4.out).mono ?_);rintro e w' ⟨rfl,⟨nd,rfl⟩⟩;refine ⟨_,rfl,?_⟩));go_loopg [1,2,7] k (fun kq v1 v2 v7 w'=>∃ (aa : Int) (ba : Int) (ca : Int),v1 = .int .i64 aa∧v2 = .int .i64 ba∧v7 = .int .i64 ca∧au (dG.l0 kq a0 aa ba ca = some r)∧au (kq ≤ k)∧aQ w w');(case atStart=>exact ⟨(a1),(a2),(da),eS,eS,eS,H',⟨Nat.le_refl _⟩,by repeat (first | exact aQ.refl _ | apply aQ.step)⟩)
 case round =>
  clear H';obtain ⟨aa,ba,ca,rfl,rfl,rfl,HA,ha,⟨m1,rfl⟩⟩:=hrel
  cases gk with
  | zero=>exact absurd HA.out (by simp [dG.l0])
  | succ k1 =>
   have H:=HA.out;clear HA;simp only [dG.l0] at H;replace H:=gI H;obtain ⟨c5,H⟩|⟨c5,H⟩:=H
   ·have ia : decide (0 < ba) = false:=decide_eq_false c5;clear c5;obtain rfl:=Option.some.inj H;go_wp2;go_ret;exact ⟨by first | rfl | (simp;done) | (simp [*];done),by repeat (first | exact aQ.refl _ | apply aQ.step)⟩
   have ia : decide (0 < ba) = true:=decide_eq_true c5;clear c5;replace H:=gE H;obtain ⟨c6,ja,ka,H⟩|⟨c6,ja,ka,H⟩:=H
   ·replace H:=bO H;obtain ⟨ea,A9,H⟩:=H;have H':=zA H;clear H;go_wp2_with (first | ((with_reducible refine av (f:=122) rfl ?_);refine gL (some 24) Try.func122 #[.int .i64 a0,.int .i64 aa,.int .i64 aa] ?_;(with_reducible refine (dZ.calls a0 aa aa ea _ A9.out).mono ?_);rintro e w' ⟨rfl,⟨nd,rfl⟩⟩;refine ⟨_,rfl,?_⟩));go_roundg k1;(case measure=>have:=ha.out;omega);(case rel=>exact ⟨(ea),(wrap64 (Int.tdiv ba 2)),(ca),eS,eS,eS,H',⟨by have:=ha.out;omega⟩,by repeat (first | exact aQ.refl _ | apply aQ.step)⟩)
   clear c6;replace H:=bO H;obtain ⟨fa,A7,H⟩:=H;replace H:=bO H;obtain ⟨ga,A8,H⟩:=H;have H':=zA H;clear H;go_wp2_with (first | ((with_reducible refine av (f:=122) rfl ?_);refine gL (some 20) Try.func122 #[.int .i64 a0,.int .i64 ca,.int .i64 aa] ?_;(with_reducible refine (dZ.calls a0 ca aa fa _ A7.out).mono ?_);rintro e w' ⟨rfl,⟨nd,rfl⟩⟩;refine ⟨_,rfl,?_⟩) | ((with_reducible refine av (f:=122) rfl ?_);refine gL (some 24) Try.func122 #[.int .i64 a0,.int .i64 aa,.int .i64 aa] ?_;(with_reducible refine (dZ.calls a0 aa aa ga _ A8.out).mono ?_);rintro e w' ⟨rfl,⟨nd,rfl⟩⟩;refine ⟨_,rfl,?_⟩));go_roundg k1;(case measure=>have:=ha.out;omega);(case rel=>exact ⟨(ga),(wrap64 (Int.tdiv ba 2)),(fa),eS,eS,eS,H',⟨by have:=ha.out;omega⟩,by repeat (first | exact aQ.refl _ | apply aQ.step)⟩)
/-! ### kw: function 41 -/
def kw.f (k : Nat) (a0 : Int) (a1 : Int) (a2 : Int) : Option (Int × Int):=(dE.f k a0).bind fun aa=>(if aa = true then ((cz.f a0 a1).bind fun ba=>(if ba = true then ((dB.f a2 0 1000000000).bind fun ca=>(if ca = true then ((dG.f k a0 a1 a2).bind fun da=>(some (da,0))) else (some (0,2)))) else (some (0,2)))) else (some (0,2)))
theorem kw.calls (k : Nat) (a0 : Int) (a1 : Int) (a2 : Int) (r1 : Int) (r2 : Int) (w : World) (H : kw.f k a0 a1 a2 = some (r1,r2)) :
  Calls Try.prog 41 #[.int .i64 a0,.int .i64 a1,.int .i64 a2] w fun e w'=>e = .returned (.tuple #[.int .i64 r1,.int .i64 r2])∧aQ w w':=by
 unfold kw.f at H;replace H:=bO H;obtain ⟨ba,A4,H⟩:=H;replace H:=gB H;obtain ⟨rfl,H⟩|⟨rfl,H⟩:=H
 ·replace H:=bO H;obtain ⟨ca,A6,H⟩:=H;replace H:=gB H;obtain ⟨rfl,H⟩|⟨rfl,H⟩:=H
  ·replace H:=bO H;obtain ⟨da,A8,H⟩:=H;replace H:=gB H;obtain ⟨rfl,H⟩|⟨rfl,H⟩:=H
   ·replace H:=bO H;obtain ⟨aa,ea,H⟩:=H;simp only [Option.some.injEq,Prod.mk.injEq] at H;obtain ⟨rfl,rfl⟩:=H;go_enter Try.func41,Try.ntmps41;go_wp2_with (first | ((with_reducible refine av (f:=125) rfl ?_);refine gL (some 9) Try.func125 #[.int .i64 a0] ?_;(with_reducible refine (dE.calls k a0 true _ A4.out).mono ?_);rintro e w' ⟨rfl,⟨nd,rfl⟩⟩;refine ⟨_,rfl,?_⟩) | (go_at_call 121;(with_reducible refine (cz.calls a0 a1 true _ A6.out).mono ?_);rintro e w' ⟨rfl,⟨nd,rfl⟩⟩) | (go_at_call 74;(with_reducible refine (dB.calls a2 0 1000000000 true _ A8.out).mono ?_);rintro e w' ⟨rfl,⟨nd,rfl⟩⟩) | ((with_reducible refine av (f:=126) rfl ?_);refine gL (some 25) Try.func126 #[.int .i64 a0,.int .i64 a1,.int .i64 a2] ?_;(with_reducible refine (dG.calls k a0 a1 a2 aa _ ea.out).mono ?_);rintro e w' ⟨rfl,⟨nd,rfl⟩⟩;refine ⟨_,rfl,?_⟩));go_ret2;exact ⟨by first | rfl | (simp;done) | (simp [*];done),by repeat (first | exact aQ.refl _ | apply aQ.step)⟩
   ·simp only [Option.some.injEq,Prod.mk.injEq] at H;obtain ⟨rfl,rfl⟩:=H;go_enter Try.func41,Try.ntmps41;go_wp2_with (first | ((with_reducible refine av (f:=125) rfl ?_);refine gL (some 9) Try.func125 #[.int .i64 a0] ?_;(with_reducible refine (dE.calls k a0 true _ A4.out).mono ?_);rintro e w' ⟨rfl,⟨nd,rfl⟩⟩;refine ⟨_,rfl,?_⟩) | (go_at_call 121;(with_reducible refine (cz.calls a0 a1 true _ A6.out).mono ?_);rintro e w' ⟨rfl,⟨nd,rfl⟩⟩) | (go_at_call 74;(with_reducible refine (dB.calls a2 0 1000000000 false _ A8.out).mono ?_);rintro e w' ⟨rfl,⟨nd,rfl⟩⟩));go_ret2;exact ⟨by first | rfl | (simp;done) | (simp [*];done),by repeat (first | exact aQ.refl _ | apply aQ.step)⟩
  ·simp only [Option.some.injEq,Prod.mk.injEq] at H;obtain ⟨rfl,rfl⟩:=H;go_enter Try.func41,Try.ntmps41;go_wp2_with (first | ((with_reducible refine av (f:=125) rfl ?_);refine gL (some 9) Try.func125 #[.int .i64 a0] ?_;(with_reducible refine (dE.calls k a0 true _ A4.out).mono ?_);rintro e w' ⟨rfl,⟨nd,rfl⟩⟩;refine ⟨_,rfl,?_⟩) | (go_at_call 121;(with_reducible refine (cz.calls a0 a1 false _ A6.out).mono ?_);rintro e w' ⟨rfl,⟨nd,rfl⟩⟩));go_ret2;exact ⟨by first | rfl | (simp;done) | (simp [*];done),by repeat (first | exact aQ.refl _ | apply aQ.step)⟩
 ·simp only [Option.some.injEq,Prod.mk.injEq] at H;obtain ⟨rfl,rfl⟩:=H;go_enter Try.func41,Try.ntmps41;go_wp2_with (first | ((with_reducible refine av (f:=125) rfl ?_);refine gL (some 9) Try.func125 #[.int .i64 a0] ?_;(with_reducible refine (dE.calls k a0 false _ A4.out).mono ?_);rintro e w' ⟨rfl,⟨nd,rfl⟩⟩;refine ⟨_,rfl,?_⟩));go_ret2;exact ⟨by first | rfl | (simp;done) | (simp [*];done),by repeat (first | exact aQ.refl _ | apply aQ.step)⟩
/-! ### fK: function 141 -/
def fK.f (k : Nat) (a0 : Int) (a1 : Int) : Option (Int):=(dG.f k a0 a1 (wrap64 (a0 - 2))).bind fun aa=>(some aa)
theorem fK.calls (k : Nat) (a0 : Int) (a1 : Int) (r : Int) (w : World) (H : fK.f k a0 a1 = some r) :
  Calls Try.prog 141 #[.int .i64 a0,.int .i64 a1] w fun e w'=>e = .returned (.int .i64 r)∧aQ w w':=by
 unfold fK.f at H;replace H:=bO H;obtain ⟨aa,A3,H⟩:=H;obtain rfl:=Option.some.inj H;go_enter Try.func141,Try.ntmps141;go_wp2_with (first | ((with_reducible refine av (f:=126) rfl ?_);refine gL (some 9) Try.func126 #[.int .i64 a0,.int .i64 a1,.int .i64 (wrap64 (a0 - 2))] ?_;(with_reducible refine (dG.calls k a0 a1 (wrap64 (a0 - 2)) aa _ A3.out).mono ?_);rintro e w' ⟨rfl,⟨nd,rfl⟩⟩;refine ⟨_,rfl,?_⟩));go_ret;exact ⟨by first | rfl | (simp;done) | (simp [*];done),by repeat (first | exact aQ.refl _ | apply aQ.step)⟩
/-! ### kL: function 144 -/
def kL.f (k : Nat) (a0 : Int) (a1 : Int) (a2 : Int) : Option (Int):=(fK.f k a0 a2).bind fun aa=>((dZ.f a0 a1 aa).bind fun ba=>(some ba))
theorem kL.calls (k : Nat) (a0 : Int) (a1 : Int) (a2 : Int) (r : Int) (w : World) (H : kL.f k a0 a1 a2 = some r) :
  Calls Try.prog 144 #[.int .i64 a0,.int .i64 a1,.int .i64 a2] w fun e w'=>e = .returned (.int .i64 r)∧aQ w w':=by
 unfold kL.f at H;replace H:=bO H;obtain ⟨aa,A4,H⟩:=H;replace H:=bO H;obtain ⟨ba,A5,H⟩:=H;obtain rfl:=Option.some.inj H;go_enter Try.func144,Try.ntmps144;go_wp2_with (first | ((with_reducible refine av (f:=141) rfl ?_);refine gL (some 11) Try.func141 #[.int .i64 a0,.int .i64 a2] ?_;(with_reducible refine (fK.calls k a0 a2 aa _ A4.out).mono ?_);rintro e w' ⟨rfl,⟨nd,rfl⟩⟩;refine ⟨_,rfl,?_⟩) | ((with_reducible refine av (f:=122) rfl ?_);refine gL (some 12) Try.func122 #[.int .i64 a0,.int .i64 a1,.int .i64 aa] ?_;(with_reducible refine (dZ.calls a0 a1 aa ba _ A5.out).mono ?_);rintro e w' ⟨rfl,⟨nd,rfl⟩⟩;refine ⟨_,rfl,?_⟩));go_ret;exact ⟨by first | rfl | (simp;done) | (simp [*];done),by repeat (first | exact aQ.refl _ | apply aQ.step)⟩
end Go.Proofs.Ytknppcledhnkoaa.Pr
