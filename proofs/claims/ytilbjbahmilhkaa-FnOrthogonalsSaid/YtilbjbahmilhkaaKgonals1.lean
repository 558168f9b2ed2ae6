/- Texts of this session in one: what functions of the program compute, and plain facts of it, under the conditions that each theorem names. -/
import Derived.ArgAppend
import Derived.Below
import Derived.BigQuiet
import Derived.Deep.AppendLies
import Derived.Deep.CutBlock
import Derived.Deep.DeepCutAuto
import Derived.Deep.Draws
import Derived.Deep.LoopGhost
import Derived.Deep.OwnRows
import Derived.Deep.QuietTactic
import Derived.Deep.RegionHeld3
import Derived.KernelRfl
import Derived.Laws.BitsLemmas
import Derived.Laws.BytesArg
import Derived.Laws.IdiomCopy
import Derived.Laws.MakeOwn
import Derived.Laws.OwnMore
import Derived.Laws.Rows
import Derived.Laws.Slices
import Derived.Lib.AppendStr
import Derived.Lib.ConvBytes
import Derived.Maps.AppendAt
import Derived.OrdersHeld
import Derived.OwnWalk
import Derived.RowKit
import Derived.RowKit3
import Derived.Shelf.Abstract
import Derived.Tactics
import Derived.Test.YtilbjbahmilhkaaProg
import Derived.WalkKit
import Derived.WalkSpells
import Derived.WideLaws
import Derived.Test.YtilbjbahmilhkaaKWApart
import Derived.Test.YtilbjbahmilhkaaKWArr
import Derived.Test.YtilbjbahmilhkaaKWAt
import Derived.Test.YtilbjbahmilhkaaKWEqStruct
import Derived.Test.YtilbjbahmilhkaaKWFoot
import Derived.Test.YtilbjbahmilhkaaKWFootNe
import Derived.Test.YtilbjbahmilhkaaKWFour
import Derived.Test.YtilbjbahmilhkaaKWGuard
import Derived.Test.YtilbjbahmilhkaaKWInv
import Derived.Test.YtilbjbahmilhkaaKWInvWords
import Derived.Test.YtilbjbahmilhkaaKWKept
import Derived.Test.YtilbjbahmilhkaaKWLast
import Derived.Test.YtilbjbahmilhkaaKWMore
import Derived.Test.YtilbjbahmilhkaaKWN
import Derived.Test.YtilbjbahmilhkaaKWNEv
import Derived.Test.YtilbjbahmilhkaaKWQPut
import Derived.Test.YtilbjbahmilhkaaKWRepsOne
import Derived.Test.YtilbjbahmilhkaaKWShare
import Derived.Test.YtilbjbahmilhkaaKWTab
import Derived.Test.YtilbjbahmilhkaaKWWords
import Derived.Test.YtilbjbahmilhkaaKWZeros
namespace Go.Proofs.Ytilbjbahmilhkaa.Pr
/- Function values: what a caller is told of a value of function type (its call answers as a plain function says), and one step of a walk that calls it. -/
open Go.RowKit Go.Proofs.YtilbjbahmilhkaaW.PrintWords Go.Proofs.YtilbjbahmilhkaaW.PrintLast Go.Proofs.YtilbjbahmilhkaaW.PrintMore
section
variable {P : Program} {w W : World} {F : Value}

/-- F is a function value that takes nothing and answers b in every later world. -/
def FnB (P : Program) (w : World) (F : Value) (b : Bool) : Prop :=
  ∃ (g : FuncId) (fi ca : Array Value),F = .func (.func g) fi ca∧Enters P g ∧
    ∀ W,Below w.heap.size w W → Calls P g (fi ++ ca) W fun e W'=>e = .returned (.bool b)∧Below W.heap.size W W'
/-- F is a function value that takes a whole number x and answers f x. -/
def FnI (P : Program) (w : World) (F : Value) (f : Int → Option Bool) : Prop :=
  ∃ (g : FuncId) (fi ca : Array Value),F = .func (.func g) fi ca∧Enters P g ∧
    ∀ x r,f x = some r → ∀ W,Below w.heap.size w W → Calls P g (fi ++ #[.int .i64 x] ++ ca) W fun e W'=>e = .returned (.bool r)∧Below W.heap.size W W'
/-- F is a function value that takes a list l of whole numbers and answers f l. -/
def FnL (P : Program) (w : World) (F : Value) (f : List Int → Option Bool) : Prop :=
  ∃ (g : FuncId) (fi ca : Array Value),F = .func (.func g) fi ca∧Enters P g ∧
    ∀ l r A c,f l = some r → ∀ W,Below w.heap.size w W → Kd.C (Kd.int .i64) W A l.length l → l.length ≤ c →
      Calls P g (fi ++ #[.slice A l.length c] ++ ca) W fun e W'=>e = .returned (.bool r)∧Below W.heap.size W W'

theorem FnB.of {g : FuncId} {fn : Func} (hf : P.funcs[g]? = some fn) (hn : (fn.name == "runtime.NumGoroutine") = false) (hb : fn.body.isSome = true := by rfl) {fi ca : Array Value} {b : Bool}
    (h : ∀ W,Below w.heap.size w W → Calls P g (fi ++ ca) W fun e W'=>e = .returned (.bool b)∧Below W.heap.size W W') : FnB P w (.func (.func g) fi ca) b :=
  ⟨g,fi,ca,rfl,fun args W=>Dt hf hn hb args W,h⟩
theorem FnI.of {g : FuncId} {fn : Func} (hf : P.funcs[g]? = some fn) (hn : (fn.name == "runtime.NumGoroutine") = false) (hb : fn.body.isSome = true := by rfl) {fi ca : Array Value} {f : Int → Option Bool}
    (h : ∀ x r,f x = some r → ∀ W,Below w.heap.size w W → Calls P g (fi ++ #[.int .i64 x] ++ ca) W fun e W'=>e = .returned (.bool r)∧Below W.heap.size W W') : FnI P w (.func (.func g) fi ca) f :=
  ⟨g,fi,ca,rfl,fun args W=>Dt hf hn hb args W,h⟩
theorem FnL.of {g : FuncId} {fn : Func} (hf : P.funcs[g]? = some fn) (hn : (fn.name == "runtime.NumGoroutine") = false) (hb : fn.body.isSome = true := by rfl) {fi ca : Array Value} {f : List Int → Option Bool}
    (h : ∀ l r A c,f l = some r → ∀ W,Below w.heap.size w W → Kd.C (Kd.int .i64) W A l.length l → l.length ≤ c →
      Calls P g (fi ++ #[.slice A l.length c] ++ ca) W fun e W'=>e = .returned (.bool r)∧Below W.heap.size W W') : FnL P w (.func (.func g) fi ca) f :=
  ⟨g,fi,ca,rfl,fun args W=>Dt hf hn hb args W,h⟩

theorem FnB.later {F : Value} {b : Bool} (hb : Below w.heap.size w W) (h : FnB P w F b) : FnB P W F b:=by
  obtain ⟨g,fi,ca,e,he,h⟩:=h
  exact ⟨g,fi,ca,e,he,fun W2 h2=>h W2 (hb.trans (h2.mono hb.size))⟩
theorem FnI.later {F : Value} {f : Int → Option Bool} (hb : Below w.heap.size w W) (h : FnI P w F f) : FnI P W F f:=by
  obtain ⟨g,fi,ca,e,he,h⟩:=h
  exact ⟨g,fi,ca,e,he,fun x r hr W2 h2=>h x r hr W2 (hb.trans (h2.mono hb.size))⟩
theorem FnL.later {F : Value} {f : List Int → Option Bool} (hb : Below w.heap.size w W) (h : FnL P w F f) : FnL P W F f:=by
  obtain ⟨g,fi,ca,e,he,h⟩:=h
  exact ⟨g,fi,ca,e,he,fun l r A c hr W2 h2=>h l r A c hr W2 (hb.trans (h2.mono hb.size))⟩
end
/- Short names for what the printed walks spell out: facts of a world hold in each world that comes of it by new blocks and drawn numbers; no condition. -/
open Go Go.RowKit Go.Proofs.YtilbjbahmilhkaaW.PrintWords Go.Proofs.YtilbjbahmilhkaaW.PrintLast Go.Proofs.YtilbjbahmilhkaaW.PrintMore
/-- `w` comes of `w0` by new blocks and drawn numbers alone. -/
class Up (w0 w : World) : Prop where
  up : Below w0.heap.size w0 w
instance Up.refl (w : World) : Up w w:=⟨Below.refl _ _⟩
instance Up.alloc (w0 w : World) (o : Obj) [u : Up w0 w] : Up w0 (w.alloc o):=⟨gG u.up o⟩
instance Up.drew (w0 w : World) [u : Up w0 w] : Up w0 w.drew:=⟨aW u.up⟩
instance Up.drewN (w0 w : World) (n : Nat) [u : Up w0 w] : Up w0 (w.drewN n):=⟨aZ u.up n⟩
instance Up.setDrewN (w0 w : World) (n : Nat) (a : Addr) (v : Value) [u : Up w0 (w.setCell a v)] : Up w0 ((w.drewN n).setCell a v):=⟨⟨u.up.os,u.up.tape,u.up.output,u.up.size,u.up.block⟩⟩
instance Up.setDrew (w0 w : World) (a : Addr) (v : Value) [u : Up w0 (w.setCell a v)] : Up w0 (w.drew.setCell a v):=⟨⟨u.up.os,u.up.tape,u.up.output,u.up.size,u.up.block⟩⟩
theorem JF (w : World) (n : Nat) (a : Addr) (v : Value) : (w.drewN n).setCell a v = (w.setCell a v).drewN n:=rfl
/-- The block lies behind the border. -/
class Geq (b g : Nat) : Prop where
  geq : b ≤ g
theorem geI {b g : Nat} (h : aa (b ≤ g)) : Geq b g:=⟨h.out⟩
/-- The same, and cells of own blocks may be set. -/
class UpS (b : Nat) (w0 w : World) : Prop where
  up : ∀ {w1 : World},b = w1.heap.size → Below b w1 w0 → Below b w1 w
instance UpS.refl (b : Nat) (w : World) : UpS b w w:=⟨fun _ h=>h⟩
instance UpS.alloc (b : Nat) (w0 w : World) (o : Obj) [u : UpS b w0 w] : UpS b w0 (w.alloc o):=⟨by rintro w1 rfl h;exact gG (u.up rfl h) o⟩
instance UpS.drew (b : Nat) (w0 w : World) [u : UpS b w0 w] : UpS b w0 w.drew:=⟨fun e h=>aW (u.up e h)⟩
instance UpS.drewN (b : Nat) (w0 w : World) (n : Nat) [u : UpS b w0 w] : UpS b w0 (w.drewN n):=⟨fun e h=>aZ (u.up e h) n⟩
instance UpS.setCell (b : Nat) (w0 w : World) (g j : Nat) (v : Value) [u : UpS b w0 w] [q : Geq b g] : UpS b w0 (w.setCell ⟨g,j,none⟩ v):=⟨by rintro w1 rfl h;exact mO (u.up rfl h) q.geq⟩
section
variable {α : Type} {d : Kd α} {e : Nat} {w0 w w1 : World} {base : Nat} {ok : Nat → Prop} {v : Value} {xs : List α}
theorem uR (h : d.R e w0 base ok v xs) [u : Up w0 w] : d.R e w base ok v xs:=Kd.nP h u.up
theorem uC {A : Option Addr} {n : Nat} (h : d.C w0 A n xs) [u : Up w0 w] : d.C w A n xs:=Kd.aQ h u.up
theorem uB {g : Nat} {o : Obj} (h : w0.heap[g]? = some o) [u : Up w0 w] : w.heap[g]? = some o:=bW h u.up
theorem uH (h : Below w1.heap.size w1 w0) [u : UpS w1.heap.size w0 w] : Below w1.heap.size w1 w:=u.up rfl h
theorem zA {p : Prop} (h : p) : aa p:=aa.mk h
theorem xB {g : Nat} {o : Obj} (h : aa (w0.heap[g]? = some o)) (hb : Below w.heap.size w w1) [u : Up w0 w] : aa (w1.heap[g]? = some o):=zA (bW (bW h.out u.up) hb)
theorem xR (h : aa (d.R e w0 base ok v xs)) (hb : Below w.heap.size w w1) [u : Up w0 w] : aa (d.R e w1 base ok v xs):=zA (Kd.nP (Kd.nP h.out u.up) hb)
theorem xH {W : World} (h : aa (Below W.heap.size W w0)) (hb : Below w.heap.size w w1) [u : UpS W.heap.size w0 w] : aa (Below W.heap.size W w1):=zA (cz (u.up rfl h.out) hb)
theorem neL {g : Nat} {o : Obj} (h : aa (w0.heap[g]? = some o)) [u : Up w0 w] : g ≠ w.heap.size:=Nat.ne_of_lt (tJ (bW h.out u.up))
theorem neG {g : Nat} {o : Obj} (h : aa (w0.heap[g]? = some o)) [u : Up w0 w] : w.heap.size ≠ g:=Nat.ne_of_gt (tJ (bW h.out u.up))
end
section
variable {α β : Type} {f : α → β} {x a : α} {l : List α} {i : Nat}
theorem la : Array.map f l.toArray = (l.map f).toArray:=List.map_toArray
theorem lb : List.map f (a :: l) = f a :: List.map f l:=List.map_cons
theorem lc : List.map f [] = []:=List.map_nil
theorem ld : (l.drop i).length = l.length - i:=List.length_drop
theorem le : (l.take i).length = min i l.length:=List.length_take
theorem ls (l : List α) (i : Nat) (a : α) : l.toArray.setIfInBounds i a = (l.set i a).toArray:=List.setIfInBounds_toArray l i a
theorem lz : (x :: l).set 0 a = a :: l:=List.set_cons_zero
theorem ln : (x :: l).set (i + 1) a = x :: l.set i a:=List.set_cons_succ
end
/-- What copy(xs, ys) makes of xs. -/
def cpy (xs ys : List Int) : List Int:=ys.take (min ys.length xs.length) ++ xs.drop (min ys.length xs.length)
section
variable {P : Program} {ops : Array Oper} {rest : List Oper} {o : Oper} {a : Act} {Q : Exit → Act → World → Prop}
theorem Qp {k : IntKind} {w0 W : World} (base : Nat) (hgd : o.guard = none) (s x : Operand) (t t' e : TypeId)
    (ho : o.op = .call { callee:=.builtin .copy,args:=#[s,x],argTypes:=#[t,t'] }) (ht : P.underlying t = some (.slice e)) (z : Value) (bytes : Nat) (hinfo : (P.info? e).map (fun i=>(i.zero,i.size,i.bytes)) = some (some z,1,bytes))
    (v : Value) (xs ys : List Int) (A : Option Addr) (m c : Nat) (ok : Nat → Prop) (hs : a.eval s = v) (hx : a.eval x = .slice A m c)
    (HO : (Kd.int k).R e W base ok v xs) (HR : (Kd.int k).C W A m ys) (HB : Below base w0 W) (hbase : base ≤ W.heap.size)
    (h : ∀ w1,(Kd.int k).R e w1 base ok v (cpy xs ys) → Below base w0 w1 → W.grownBy w1 v.ownBlock → (v.ownBlock = v.ownBlock ∨ ∃ b,v.ownBlock = some b∧W.heap.size ≤ b) → wpList P ops Q rest (a.put o.dst (.int .i64 ((min m xs.length : Nat) : Int))) w1) :
    wpList P ops Q (o :: rest) a W:=by
  have hm : ys.length = m:=Kd.alW HR
  subst hm
  have hi : (P.info? e).map (·.size) = some 1:=by
    obtain ⟨i0,hi,hz⟩:=Option.map_eq_some_iff.1 hinfo
    simp only [Prod.mk.injEq] at hz
    rw [hi,Option.map_some,hz.2.1]
  exact Kd.ahk (h1:=fun _=>rfl) (0 : Int) base hgd s x t t' e ho ht hi v xs ys A ys.length c ok hs hx HO HR HB hbase (fun w1 h1 h2 h3=>h w1 h1 h2 h3 (.inl rfl))
end
attribute [local go_sem] o9 pg qX qY nM nN pq pu   -- for this text's walks alone
set_option linter.unusedVariables false
set_option linter.unusedSimpArgs false
def alX : Option Int → Value
  | none => .nilIface
  | some c => .iface 0 (.int .i64 c)
theorem dP : alX none = .nilIface := rfl
theorem dQ (c : Int) : alX (some c) = .iface 0 (.int .i64 c) := rfl

theorem lm : (Try.prog.info? 2).map (fun i => (i.zero, i.size, i.bytes)) = some (some (.int .i64 0), 1, 8) := by kernel_rfl
theorem az8 : (Try.prog.info? 9).map (fun i => (i.zero, i.size, i.bytes)) = some (some (.string ⟨#[]⟩), 1, 16) := by kernel_rfl
theorem Iw : (Try.prog.info? 24).map (fun i => (i.zero, i.size, i.bytes)) = some (some (.slice none 0 0), 1, 24) := by kernel_rfl
-- the values' own types
def fw (xs : List (List Int)) (i : Int) : (List Int) := xs.getD i.toNat ([] : List Int)
theorem y7 {w : World} {A : Option Addr} {n : Nat} {xs : List (List Int)} (h : Kd.C (Kd.slice 2 (Kd.int .i64)) w A n xs) (i : Int) (h0 : 0 ≤ i) (h1 : i < n) : ∃ ad A0 c0, A = some ad ∧ w.cell? (ad.add i.toNat) = some (.slice A0 (fw xs i).length c0) ∧ (fw xs i).length ≤ c0 ∧ (Kd.int .i64).C w A0 (fw xs i).length (fw xs i) := by
  obtain ⟨ad, c, e, _, hK, hc0⟩ := Kd.aeV h ([] : List Int) i h0 h1
  have hc : ∀ j u, c[j]? = some u → w.cell? (ad.add (i.toNat * 1 + j)) = some u := hc0
  obtain ⟨A0, c0, rfl, l0, g0⟩ := hK
  exact ⟨ad, A0, c0, e, by have hq := hc 0 _ rfl; rwa [Nat.mul_one, Nat.add_zero] at hq, l0, g0⟩

def Tj (xs : List (List (List Int))) (i : Int) : (List (List Int)) := xs.getD i.toNat ([] : List (List Int))
theorem az9 {w : World} {A : Option Addr} {n : Nat} {xs : List (List (List Int))} (h : Kd.C (Kd.slice 24 (Kd.slice 2 (Kd.int .i64))) w A n xs) (i : Int) (h0 : 0 ≤ i) (h1 : i < n) : ∃ ad A0 c0, A = some ad ∧ w.cell? (ad.add i.toNat) = some (.slice A0 (Tj xs i).length c0) ∧ (Tj xs i).length ≤ c0 ∧ (Kd.slice 2 (Kd.int .i64)).C w A0 (Tj xs i).length (Tj xs i) := by
  obtain ⟨ad, c, e, _, hK, hc0⟩ := Kd.aeV h ([] : List (List Int)) i h0 h1
  have hc : ∀ j u, c[j]? = some u → w.cell? (ad.add (i.toNat * 1 + j)) = some u := hc0
  obtain ⟨A0, c0, rfl, l0, g0⟩ := hK
  exact ⟨ad, A0, c0, e, by have hq := hc 0 _ rfl; rwa [Nat.mul_one, Nat.add_zero] at hq, l0, g0⟩
/- slices.Clone at []int64: a new row with the same numbers (nil stays nil). -/
def lS.f (l : List Int) : Option (List Int):=if l.length < 17592186044416 then some l else none

set_option maxHeartbeats 8000000 in
set_option maxRecDepth 100000 in
theorem lS.calls (A0 : Option Addr) (c0 : Nat) (l0 : List Int) (r : List Int) (w : World) (hr0 : Kd.C (Kd.int .i64) w A0 l0.length l0) (hc0 : l0.length ≤ c0) (h : lS.f l0 = some r) :
    Calls Try.prog 91 #[.slice A0 l0.length c0] w fun e w'=>∃ v0_ : Value,e = .returned (v0_)∧Kd.R (Kd.int .i64) 2 w' w.heap.size (fun _=>True) v0_ r∧Below w.heap.size w w':=by
  have hnil : ∀ (W : World) (a : Option Addr) (n c : Nat),(Go.binOp .eql 24 (.slice a n c) (.slice none 0 0)).run Try.prog W = .ok (.bool a.isNone) W:=fun W a n c=>Lib.run_eql_slice_nil W 24 2 a n c 0 0 Try.underlying24
  unfold lS.f at h
  split at h
  case isFalse=>cases h
  rename_i c2
  obtain rfl:=Option.some.inj h
  clear h
  have HR0:=aa.mk hr0
  have HC0:=aa.mk hc0
  clear hr0 hc0
  have HB:=aa.mk (Below.refl w.heap.size w)
  have ahl:=aa.mk c2
  clear c2
  cases A0 with
  | none =>
    have hl : l0 = []:=by
      rcases l0 with _ | ⟨x,l⟩
      · rfl
      · obtain ⟨ad,e,_⟩:=Kd.ic HR0.out 0 (by omega) (by simp only [List.length_cons];omega)
        cases e
    subst hl
    go_enter Try.func91,Try.ntmps91
    go_wp2
    go_ret
    exact ⟨_,rfl,Kd.qZ _ _ _ _ _,HB.out⟩
  | some ad0 =>
    obtain ⟨sw,aeW⟩ : ∃ y_ : List Int,y_ = (([] : List Int)):=⟨_,rfl⟩
    have Iy:=aa.mk aeW
    clear aeW
    obtain ⟨lL,aeX⟩ : ∃ y_ : List Int,y_ = (sw ++ l0):=⟨_,rfl⟩
    have Ot:=aa.mk aeX
    clear aeX
    go_enter Try.func91,Try.ntmps91
    go_wp2_with (first | ((with_reducible refine bI (N:=5) rfl ?_);refine Kd.rC (Kd.int .i64) _ 2 ?hg (N:=5) ?hd (xs:=([] : List Int)) (inner:=[]) (ok:=fun _=>True) (okp:=fun _=>True) ?hr ?hp (fun _ hk=>hk) trivial (Below.refl _ _) (Nat.le_refl _) (by simp) ?_;(case hd=>rfl);(case hg=>rfl);(case hr=>first | (go_simp;done) | (go_simp;rfl));(case hp=>exact (dn.none _ _));intro alY w3 ho4 hb hg_ hnew_;clear hg_ hnew_;(first | rw [← Iy.out] at ho4 | (simp only [Int.reduceToNat] at ho4;rw [← Iy.out] at ho4));have n0_:=aa.mk (Kd.bD ho4 (af (by repeat (first | (with_reducible first | exact HB.out | apply gG | apply aZ | apply aW) | exact HB.out))));have n1_:=aa.mk (cz (by repeat (first | (with_reducible first | exact HB.out | apply gG | apply aZ | apply aW) | exact HB.out)) hb);clear HB;have lK:=n0_;have HB:=n1_;clear n0_ n1_;clear hb ho4) | ((with_reducible refine eO (b:=.append) (xs:=#[.tmp 5,.tmp 6]) rfl ?_);at_builtin;refine Kd.vR (Kd.int .i64) (w0:=w) w.heap.size rfl (.tmp 5) (.tmp 6) 24 2 (.int .i64 0) 8 rfl Try.underlying24 lm rfl (by decide) (by omega) alY sw l0 _ _ _ (fun _=>True) (fun _=>False) rfl rfl ?aO ?aR (fun _ _ h=>h) (fun _ h=>h.elim) ?aF ?aB ?aS ?aL ?_;(case aR=>repeat (first | exact (Kd.aQ HR0.out HB.out) | (with_reducible refine Kd.dE ?_ _) | (with_reducible refine Kd.dF ?_ _) | (with_reducible refine Kd.eQ ?_)));(case aB=>exact (by repeat (first | (with_reducible first | exact HB.out | apply gG | apply aZ | apply aW) | exact HB.out)));(case aF=>exact (fun _ _=>trivial));(case aO=>exact (by (with_reducible repeat (first | apply Kd.vS | apply Kd.uo | apply Kd.iJ));exact lK.out));(case aS=>exact (af (by repeat (first | (with_reducible first | exact HB.out | apply gG | apply aZ | apply aW) | exact HB.out))));(case aL=>have:=ahl.out;have e:=Iy.out;rw [e];simp;omega);intro avI w5 ho hb hg hat;rw [← Ot.out] at ho;have n0_:=aa.mk (hb);have n1_:=aa.mk (ho);clear HB;clear lK;have HB:=n0_;have mG:=n1_;clear n0_ n1_;clear ho hb hg hat))
    go_ret
    have e : l0 = lL:=by rw [Ot.out,Iy.out];rfl
    rw [e]
    exact ⟨_,rfl,by (with_reducible repeat (first | apply Kd.vS | apply Kd.uo | apply Kd.iJ));exact mG.out,by repeat (first | (with_reducible first | exact HB.out | apply gG | apply aZ | apply aW) | exact HB.out)⟩
/- An element of a row of rows that is the call's own is the call's own; no condition. -/
theorem ahm {v : Value} {n : Nat} (h : ∃ b,v.ownBlock = some b∧n ≤ b) : ∀ k,v.ownBlock = some k → n ≤ k:=fun k e=>by
  obtain ⟨b,h1,h2⟩:=h
  rw [h1] at e
  cases e
  exact h2
theorem ab2 {α : Type} {d : Kd α} {e base : Nat} {ok : Nat → Prop} {W : World} {A : Option Addr} {m c : Nat} {ys : List α} (h : d.R e W base ok (.slice A m c) ys) : mH (d.M W base ok) d.sz W A m ys:=by
  obtain ⟨A',c',hv,_,hr⟩:=h.2.reads
  cases hv
  exact mH.uj hr (Below.refl _ _) (fun _ _ hp=>d.M_mono (fun k hk=>hk.1) hp)
theorem rE {α : Type} {d : Kd α} {e base : Nat} {ok : Nat → Prop} {W w1 : World} {u v v1 : Value} {xs : List α} (h : d.R e W base (fun k=>ok k∧some k ≠ v.ownBlock) u xs) (hg : W.grownBy w1 v.ownBlock) (hat : v1.ownBlock = v.ownBlock ∨ ∃ b,v1.ownBlock = some b∧W.heap.size ≤ b) : d.R e w1 base (fun k=>ok k∧some k ≠ v1.ownBlock) u xs:=by
  refine Kd.ag (Kd.EL (Kd.qo h) (fun k hk hlt=>hg.block k hlt hk.1.2)) (fun k hk=>⟨hk.1.1,?_⟩)
  rcases hat with hat | ⟨b,hb,hle⟩
  · rw [hat];exact hk.1.2
  · rw [hb]
    intro e_
    cases e_
    have:=hk.2.2.1
    omega
theorem ab3 {e e' base : Nat} {ok : Nat → Prop} {W : World} {ad : Addr} {n cap : Nat} {xs : List (List Int)} (h : Kd.R (Kd.slice e' (Kd.int .i64)) e W base ok (.slice (some ad) n cap) xs) (i : Int) (h0 : 0 ≤ i) (h1 : i < (n : Int))
    {A : Option Addr} {m c : Nat} (hc : W.cell? (ad.add i.toNat) = some (.slice A m c)) : Kd.R (Kd.int .i64) e' W base ok (.slice A m c) (fw xs i):=by
  have hown:=h.2
  obtain ⟨inner,ho,_⟩:=hown
  obtain ⟨_,ho⟩:=ho
  rcases ho with ⟨hv,_⟩ | ⟨g,cp,cur,hv,hg,hh,r⟩
  · cases hv
  · injection hv with e1 e2 e3
    injection e1 with e1
    subst e1
    obtain ⟨cs,hl,hM,hcell,_⟩:=Kd.Qc h [] i h0 h1
    obtain ⟨v,rfl,hR⟩:=hM
    have h2:=hcell 0 v rfl
    have h3 : W.cell? ⟨g,i.toNat * 1 + 0,none⟩ = some v:=h2
    have h4 : (⟨g,i.toNat * 1 + 0,none⟩ : Addr) = (⟨g,0,none⟩ : Addr).add i.toNat:=by simp [Addr.add]
    rw [h4,hc] at h3
    cases h3
    exact Kd.ag hR (fun _ hk=>hk.1)
/- Short steps of a walk through a region whose order is drawn (each stands for a row that the print spells out); no condition. -/
/-- The lowest n bits of m. -/
def bq : Nat → Nat → List Bool
  | 0,_=>[]
  | n + 1,m=>(m % 2 == 1) :: bq n (m / 2)
def bl (n m : Nat) : Array Bool:=⟨bq n m⟩
section
variable {P : Program} {ops : Array Oper} {Q : Exit → Act → World → Prop} {S : World → Prop} {ds : List Nat} {T : Bool × List (List Nat × List Nat)} {B : List Nat} {fuel : Nat} {l : Array Bool} {a a' : Act} {w : World} {oi : Oper} {v : Value}
theorem pu_ (i : Nat) (N : Tmp) (l' : Array Bool) (HT : aa (nI .any ops = T)) (h : bY P .any ops Q S ds fuel l' a' w)
    (hi : ops[i]? = some oi:=by rfl) (hN : oi.dst = some N:=by rfl) (hc : abZ T l.toList l'.toList i = true:=by kernel_rfl)
    (hQ : ∀ c a w,Q (.panic c) (a.put oi.dst v) w → Q (.panic c) a w:=by exact fun _ _ _ h=>h)
    (hy : Yields P ops oi v a:=by exact Or.inl ⟨by rfl,by intro w';go_simp;with_reducible rfl⟩)
    (ha : a.put (some N) v = a':=by (simp only [Act.put,ls,lz,ln,jd,kQ];rfl)) : bY P .any ops Q S ds (fuel + 1) l a w :=
  FM l' hi hN (Xq HT.out hc) hQ hy ha h
theorem un_ (i : Nat) (N : Tmp) (l' : Array Bool) (HT : aa (nI .any ops = T)) (h : bY P .any ops Q S ds fuel l' a' w)
    (hi : ops[i]? = some oi:=by rfl) (hN : oi.dst = some N:=by rfl) (hc : abZ T l.toList l'.toList i = true:=by kernel_rfl)
    (hQ : ∀ c a w,Q (.panic c) (a.put oi.dst undef) w → Q (.panic c) a w:=by exact fun _ _ _ h=>h)
    (hy : Yields P ops oi undef a:=by exact Or.inr ⟨by rfl,rfl⟩)
    (ha : a.put (some N) undef = a':=by (simp only [Act.put,ls,lz,ln,jd,kQ];rfl)) : bY P .any ops Q S ds (fuel + 1) l a w :=
  FM l' hi hN (Xq HT.out hc) hQ hy ha h
theorem ta_ (i : Nat) (N : Tmp) (l' : Array Bool) (HT : aa (nI .any ops = T)) (HW : aa (jT T.2 B = true)) (hS : S w) (h : bY P .any ops Q S ds fuel l' a' w)
    (hi : ops[i]? = some oi:=by rfl) (hN : oi.dst = some N:=by rfl) (hc : Xt T B ds l.toList l'.toList i = true:=by kernel_rfl)
    (hQ : ∀ c a w,Q (.panic c) (a.put oi.dst v) w → Q (.panic c) a w:=by exact fun _ _ _ h=>h)
    (hy : YieldsIf P ops S oi v a:=by exact Or.inl ⟨by rfl,by intro w' hs;go_simp;with_reducible rfl⟩)
    (ha : a.put (some N) v = a':=by (simp only [Act.put,ls,lz,ln,jd,kQ];rfl)) : bY P .any ops Q S ds (fuel + 1) l a w :=
  Dh l' hi hN (Ig HT.out HW.out hc) hQ hy hS ha h
theorem on_ (i : Nat) (N : Option Tmp) (l' : Array Bool) (HT : aa (nI .any ops = T))
    (h : ∀ K : Act → World → Prop,Shut (∀ a' w',S w' → (S w' → bY P .any ops Q S ds fuel l' a' w') → K a' w') → if Region.wanted oi (yielded ops a.tmps) = true then Oper.wp P oi a w K Q else K (a.put N undef) w)
    (hi : ops[i]? = some oi:=by rfl) (hN : oi.dst = N:=by rfl) (hc : (xI T.2 l.toList == [i] && l.toList.set i true == l'.toList) = true:=by kernel_rfl) (hd : i ∉ ds:=by decide) : bY P .any ops Q S ds (fuel + 1) l a w :=
  Qq l' hi hN (um HT.out hc) hd h
theorem no_ {a0 : Act} (N : Tmp) (h : bY P .any ops Q S ds fuel l a' w) (ha : a0.put (some N) v = a':=by (simp only [Act.put,ls,lz,ln,jd,kQ];rfl)) : bY P .any ops Q S ds fuel l (a0.put (some N) v) w:=FN ha h
end
/- One more short step: what is read at the world where it comes up; no condition. -/
section
variable {P : Program} {ops : Array Oper} {Q : Exit → Act → World → Prop} {S : World → Prop} {ds : List Nat} {T : Bool × List (List Nat × List Nat)} {fuel : Nat} {l : Array Bool} {a a' : Act} {w : World} {oi : Oper} {v : Value}
theorem lo_ (i : Nat) (N : Tmp) (l' : Array Bool) (HT : aa (nI .any ops = T)) (hS : S w) (h : bY P .any ops Q S ds fuel l' a' w)
    (hi : ops[i]? = some oi:=by rfl) (hN : oi.dst = some N:=by rfl) (hc : (xI T.2 l.toList == [i] && l.toList.set i true == l'.toList) = true:=by kernel_rfl) (hd : i ∉ ds:=by decide)
    (hw : Region.wanted oi (yielded ops a.tmps) = true:=by rfl) (hrun : (execOp a.eval oi).run P w = .ok (.value v) w:=by (go_simp;with_reducible rfl))
    (ha : a.put (some N) v = a':=by (simp only [Act.put,ls,lz,ln,jd,kQ];rfl)) : bY P .any ops Q S ds (fuel + 1) l a w:=by
  subst ha
  exact Qq l' hi hN (um HT.out hc) hd (fun K hK=>EM hw hN hrun (hK.out _ _ hS (fun _=>h)))
end
instance Up.alv (w0 w : World) (n : Nat) (a b : Addr) (v u : Value) [q : Up w0 ((w.setCell a v).setCell b u)] : Up w0 (((w.drewN n).setCell a v).setCell b u):=⟨⟨q.up.os,q.up.tape,q.up.output,q.up.size,q.up.block⟩⟩
instance Up.alx (w0 w : World) (n : Nat) (a b c : Addr) (v u x : Value) [q : Up w0 (((w.setCell a v).setCell b u).setCell c x)] : Up w0 ((((w.drewN n).setCell a v).setCell b u).setCell c x):=⟨⟨q.up.os,q.up.tape,q.up.output,q.up.size,q.up.block⟩⟩
/- More short forms of what the printed walks spell out; no condition. -/
/-- The block k is not the row v's own. -/
abbrev ax (k : Nat) (v : Value) : Prop:=some k ≠ v.ownBlock
theorem bc {w : World} {g : Nat} {t : TypeId} {cs : Array Value} (h : aa (w.heap[g]? = some (.cells cs t (0,0)))) (i : Nat) {v : Value} (hv : cs[i]? = some v:=by rfl) : w.cell? ⟨g,i,none⟩ = some v:=(bR h.out i).trans hv
theorem bcu {w0 w : World} {g : Nat} {t : TypeId} {cs : Array Value} (h : aa (w0.heap[g]? = some (.cells cs t (0,0)))) (i : Nat) {v : Value} [u : Up w0 w] (hv : cs[i]? = some v:=by rfl) : w.cell? ⟨g,i,none⟩ = some v:=(bR (uB h.out) i).trans hv
theorem bf {w : World} {g : Nat} {t : TypeId} {cs : Array Value} (h : aa (w.heap[g]? = some (.cells cs t (0,0)))) (i : Nat) : w.frozen? ⟨g,i,none⟩ = false:=di h.out i
theorem gq {b w w0 : World} {g : Nat} (HB : aa (Below b.heap.size b w0)) (hg : g = w.heap.size) [u : UpS b.heap.size w0 w] : aa (b.heap.size ≤ g):=⟨by rw [hg];exact af (u.up rfl HB.out)⟩
theorem hc {b w : World} {p : Addr} {v : Value} (HB : aa (Below b.heap.size b w)) (h : b.cell? p = some v) : w.cell? p = some v:=(HB.out.cell (World.block_lt_of_cell? b p h)).trans h
theorem hcu {b w0 w : World} {p : Addr} {v : Value} (HB : aa (Below b.heap.size b w0)) (h : b.cell? p = some v) [u : UpS b.heap.size w0 w] : w.cell? p = some v:=((u.up rfl HB.out).cell (World.block_lt_of_cell? b p h)).trans h
section
variable {P : Program} {ops : Array Oper} {Q : Exit → Act → World → Prop} {rest : List Oper} {oi : Oper} {a : Act} {w : World} {f : FuncId} {fn : Func} {az : Array Operand} {ts : Array TypeId}
theorem gL (N : Option Tmp) (hf : P.funcs[f]? = some fn) (args : Array Value) (h : Calls P f args w fun e w'=>∃ v,e = .returned v∧wpList P ops Q rest (a.put N v) w')
    (hd : oi.dst = N := by rfl) (hg : oi.guard = none := by rfl) (hname : (fn.name == "runtime.NumGoroutine") = false := by kernel_rfl) (hb : fn.body.isSome = true := by rfl)
    (hop : oi.op = .call { callee:=.value (.func f),args:=az,argTypes:=ts }:=by rfl) (hargs : az.map a.eval = args:=by ((try simp only [la,lb,lc]);first | done | rfl | (simp only [ld,le];rfl))) : wpList P ops Q (oi :: rest) a w :=
  uq N hd hg hf hname hb args hop hargs h
theorem bx (N : Tmp) (cs : Array Value) (t : TypeId) (h : ∀ g,g = w.heap.size → ∀ w1,w1.heap[g]? = some (.cells cs t (0,0)) → Below w.heap.size w w1 → wpList P ops Q rest (a.put oi.dst (.pointer (some ⟨g,0,none⟩))) w1)
    (hd : oi.dst = some N:=by rfl) (hg : oi.guard = none:=by rfl)
    (hr : (execOp a.eval oi).run P w = .ok (.value (.pointer (some ⟨w.heap.size,0,none⟩))) (w.alloc (.cells cs t (0,0))):=by first | (go_simp;done) | (go_simp;rfl)) : wpList P ops Q (oi :: rest) a w :=
  qN hg hd hr h
theorem gS {N : Option Tmp} {K : Act → World → Prop} (hf : P.funcs[f]? = some fn) (args : Array Value) (h : Calls P f args w fun e w'=>∃ v,e = .returned v∧K (a.put N v) w')
    (hname : (fn.name == "runtime.NumGoroutine") = false := by kernel_rfl) (hb : fn.body.isSome = true := by rfl) (hw : Region.wanted oi (yielded ops a.tmps) = true := by rfl) (hN : oi.dst = N := by rfl)
    (hop : oi.op = .call { callee:=.value (.func f),args:=az,argTypes:=ts }:=by rfl) (hargs : az.map a.eval = args:=by ((try simp only [la,lb,lc]);first | done | rfl | (simp only [ld,le];rfl))) : if Region.wanted oi (yielded ops a.tmps) = true then Oper.wp P oi a w K Q else K (a.put N undef) w :=
  Ii hf hname hb args hw hN hop hargs h
end
/-- One step back: a new block, or drawn numbers. -/
class Up1 (w : outParam World) (w1 : World) : Prop where
  up : Below w.heap.size w w1
instance Up1.alloc (w : World) (o : Obj) : Up1 w (w.alloc o):=⟨gG (Below.refl _ _) o⟩
instance Up1.drew (w : World) : Up1 w w.drew:=⟨aW (Below.refl _ _)⟩
instance Up1.drewN (w : World) (n : Nat) : Up1 w (w.drewN n):=⟨aZ (Below.refl _ _) n⟩
theorem up1 {w w1 : World} {g : Nat} {o : Obj} [u : Up1 w w1] (h : w.heap[g]? = some o) : w1.heap[g]? = some o:=bW h u.up
section
variable {α : Type} {d : Kd α} {e base g t : Nat} {ok : Nat → Prop} {w : World} {v : Value} {xs : List α} {cells : Array Value}
/-- A row stays where the cells of a block of another type are set. -/
theorem rf2 (h : aa (d.R e w base ok v xs)) (hb : aa (w.heap[g]? = some (.cells cells t (0,0)))) (ht : ∀ q,q ∈ e :: d.E → q ≠ t) (a b : Value) : d.R e ((w.setCell ⟨g,0,none⟩ a).setCell ⟨g,1,none⟩ b) base ok v xs :=
  Kd.ag (Kd.bA (p:=⟨g,1,none⟩) (Kd.bA (p:=⟨g,0,none⟩) (Kd.bL h.out hb.out ht) (fun _ hk=>hk.2) a) (fun _ hk=>hk.2) b) (fun _ hk=>hk.1)
end
/- Short forms of rows that a great law's printed walk tells again and again; no condition. -/
section
variable {α β γ : Type} {d : Kd α} {d0 : Kd β} {d1 : Kd γ} {e e0 e1 base b0 : Nat} {ok ok0 ok1 : Nat → Prop} {W w w1 : World} {u v v0 v1 : Value} {xs : List α} {xs0 : List β} {xs1 : List γ}
theorem nw (h : d.R e w1 W.heap.size ok v xs) (h' : d0.R e0 W b0 ok0 u xs0) : d.R e w1 W.heap.size (fun k=>ok k∧some k ≠ u.ownBlock) v xs:=Kd.ahn h (Kd.jN h')
theorem rc {A : Option Addr} {n c : Nat} (h : d.R e w base ok (.slice A n c) xs) : d.C w A xs.length xs:=(Kd.aH h).2.2
end
set_option maxHeartbeats 8000000
set_option maxRecDepth 100000
/-! ### pz: function 43 -/
def pz.f  : Option (Bool):=some true
theorem pz.calls  (r : Bool) (w : World) (H : pz.f  = some r) :
  Calls Try.prog 43 #[] w fun e w'=>e = .returned (.bool r)∧aT w w':=by
 unfold pz.f at H;obtain rfl:=Option.some.inj H;go_enter Try.func43,Try.ntmps43;go_wp2;go_ret;exact ⟨by first | rfl | (simp;done) | (simp [*];done),by repeat (first | exact aT.refl _ | apply aT.step)⟩
/-! ### dO: function 36 -/
def dO.f (l0 : List Int) : Option (Int):=some (l0.length : Int)
theorem dO.calls (A0 : Option Addr) (c0 : Nat) (l0 : List Int) (r : Int) (w : World) (hr0 : Kd.C (Kd.int .i64) w A0 l0.length l0) (hc0 : l0.length ≤ c0) (H : dO.f l0 = some r) :
  Calls Try.prog 36 #[.slice A0 l0.length c0] w fun e w'=>e = .returned (.int .i64 r)∧aT w w':=by
 have HR0:=zA hr0;have HC0:=zA hc0;clear hr0 hc0;unfold dO.f at H;obtain rfl:=Option.some.inj H;go_enter Try.func36,Try.ntmps36;go_wp2;go_ret;exact ⟨by first | rfl | (simp;done) | (simp [*];done),by repeat (first | exact aT.refl _ | apply aT.step)⟩
/-! ### ut: function 5 -/
def ut.f (l0 : List Int) : Option (Bool):=some (decide ((l0.length : Int) > 4096))
theorem ut.calls (A0 : Option Addr) (c0 : Nat) (l0 : List Int) (r : Bool) (w : World) (hr0 : Kd.C (Kd.int .u8) w A0 l0.length l0) (hc0 : l0.length ≤ c0) (H : ut.f l0 = some r) :
  Calls Try.prog 5 #[.slice A0 l0.length c0] w fun e w'=>e = .returned (.bool r)∧aT w w':=by
 have HR0:=zA hr0;have HC0:=zA hc0;clear hr0 hc0;unfold ut.f at H;obtain rfl:=Option.some.inj H;go_enter Try.func5,Try.ntmps5;go_wp2;go_ret;exact ⟨by first | rfl | (simp;done) | (simp [*];done),by repeat (first | exact aT.refl _ | apply aT.step)⟩
/- Steps that stand in for tactics told again and again: the proofs are found where the lemma is called. -/
theorem eX {α : Type} {a b : α} (h : a = b:=by first | rfl | (simp [dP,dQ] <;> rfl) | (simp [*,dP,dQ] <;> rfl)) : a = b:=h
theorem eS {α : Type} {a b : α} (h : a = b:=by first | rfl | (simp;done) | (simp [*];done)) : a = b:=h
section
variable {α : Type} {d : Kd α} {e base : Nat} {ok : Nat → Prop} {w W : World} {v : Value} {xs : List α}
theorem uV {w0 : World} (h : Kd.V d e w0 base ok v xs) [u : Up w0 w] : Kd.V d e w base ok v xs:=Kd.jZ h u.up
theorem uN {w0 : World} (h : Kd.N d e w0 base ok v xs) [u : Up w0 w] : Kd.N d e w base ok v xs:=Kd.oO h u.up
theorem nB {b : World} (hw : W = w) (h : Below b.heap.size b w) : aa (Below b.heap.size b W):=by subst hw;exact zA h
end
/- Steps that take a told equation apart: a condition that must hold, one of two ways, an answer bound; no condition. -/
section
variable {α β : Type} {P : Prop} [Decidable P] {x y : Option α} {r : α}
theorem gI (h : (if P then x else y) = some r) : (¬ P∧y = some r) ∨ (P∧x = some r):=by
  by_cases c : P
  · exact .inr ⟨c,by rwa [if_pos c] at h⟩
  · exact .inl ⟨c,by rwa [if_neg c] at h⟩
theorem gN (h : (if P then x else none) = some r) : P∧x = some r:=by
  rcases gI h with ⟨_,h⟩ | h
  · cases h
  · exact h
theorem gD (h : (if P then x else none) = some r) : decide P = true∧x = some r:=⟨decide_eq_true (gN h).1,(gN h).2⟩
theorem gZ (h : (if P then x else none) = some r) : aa P∧x = some r:=⟨⟨(gN h).1⟩,(gN h).2⟩
theorem gF (h : (if P then x else y) = some r) : (decide P = false∧y = some r) ∨ (decide P = true∧x = some r) :=
  (gI h).imp (fun h=>⟨decide_eq_false h.1,h.2⟩) (fun h=>⟨decide_eq_true h.1,h.2⟩)
theorem gE {γ : Type} [BEq γ] [LawfulBEq γ] {a b : γ} [Decidable (a = b)] (h : (if a = b then x else y) = some r) : (¬ a = b∧(a == b) = false∧(a != b) = true∧y = some r) ∨ (a = b∧(a == b) = true∧(a != b) = false∧x = some r) :=
  (gI h).imp (fun h=>⟨h.1,beq_eq_false_iff_ne.mpr h.1,bne_iff_ne.mpr h.1,h.2⟩) (fun h=>⟨h.1,beq_iff_eq.mpr h.1,bne_eq_false_iff_eq.mpr h.1,h.2⟩)
theorem gB {t : Bool} (h : (if t = true then x else y) = some r) : (t = true∧x = some r) ∨ (t = false∧y = some r):=by
  cases t
  · exact .inr ⟨rfl,h⟩
  · exact .inl ⟨rfl,h⟩
theorem oD (h : decide P = true:=by first | (with_reducible assumption) | assumption) : P:=of_decide_eq_true h
end
section
variable {α β : Type} {r : α}
theorem bO {x : Option β} {f : β → Option α} (h : x.bind f = some r) : ∃ a,aa (x = some a)∧f a = some r:=by
  obtain ⟨a,h1,h2⟩:=Option.bind_eq_some_iff.mp h
  exact ⟨a,⟨h1⟩,h2⟩
theorem bS {e : β} {f : β → Option α} (h : (some e).bind f = some r) : ∃ y,aa (y = e)∧f y = some r:=⟨e,⟨rfl⟩,h⟩
theorem eY (e : β) : ∃ y,aa (y = e):=⟨e,⟨rfl⟩⟩
end
/-! ### ji: function 108 -/
def ji.f (a0 : Int) (jK : (Int → Option Bool)) : Option (Bool):=(jK a0).bind fun alZ=>(some (!alZ))
theorem ji.calls (a0 : Int) (gc1 : Nat) (Xu : Value) (jK : (Int → Option Bool)) (r : Bool) (w : World) (hb1 : w.heap[gc1]? = some (.cells #[Xu] 76 (0,0))) (Du : FnI Try.prog w Xu jK) (H : ji.f a0 jK = some r) :
  Calls Try.prog 108 #[.int .i64 a0,.pointer (some ⟨gc1,0,none⟩)] w fun e w'=>e = .returned (.bool r)∧Below w.heap.size w w':=by
 obtain ⟨Qr,Xv,Xw,rfl,Iz,Du⟩:=Du;have Iz : ∀ (args_ : Array Value) (w_ : World),(callFunc Qr args_).run Try.prog w_ = .ok (.enter Qr args_) w_:=Iz;have Xx:=zA Du;clear Du;have BK1:=zA hb1;clear hb1;have HB:=zA (Below.refl w.heap.size w);unfold ji.f at H;replace H:=bO H;obtain ⟨alZ,A3,H⟩:=H;obtain rfl:=Option.some.inj H;have Qs:=bc BK1 0;have Qt:=bf BK1 0;go_enter Try.func108,Try.ntmps108;go_wp2_with (first | (go_at_fn Qr;refine dA (args':=Xv ++ #[.int .i64 a0] ++ Xw) (by simp) ?_;refine (Xx.out a0 _ A3.out _ (uH HB.out)).mono ?_;rintro e w5 ⟨rfl,hb⟩;replace BK1:=xB BK1 hb;replace HB:=xH HB hb;(try clear hb)));go_ret;exact ⟨eX,uH HB.out⟩
/-! ### jw: function 110 -/
def jw.f (l0 : List Int) (jK : (List Int → Option Bool)) : Option (Bool):=(jK l0).bind fun al0=>(some (!al0))
theorem jw.calls (A0 : Option Addr) (c0 : Nat) (l0 : List Int) (gc1 : Nat) (Xu : Value) (jK : (List Int → Option Bool)) (r : Bool) (w : World) (hr0 : Kd.C (Kd.int .i64) w A0 l0.length l0) (hc0 : l0.length ≤ c0) (hb1 : w.heap[gc1]? = some (.cells #[Xu] 101 (0,0))) (Du : FnL Try.prog w Xu jK) (H : jw.f l0 jK = some r) :
  Calls Try.prog 110 #[.slice A0 l0.length c0,.pointer (some ⟨gc1,0,none⟩)] w fun e w'=>e = .returned (.bool r)∧Below w.heap.size w w':=by
 have HR0:=zA hr0;have HC0:=zA hc0;clear hr0 hc0;obtain ⟨Qr,Xv,Xw,rfl,Iz,Du⟩:=Du;have Iz : ∀ (args_ : Array Value) (w_ : World),(callFunc Qr args_).run Try.prog w_ = .ok (.enter Qr args_) w_:=Iz;have Xx:=zA Du;clear Du;have BK1:=zA hb1;clear hb1;have HB:=zA (Below.refl w.heap.size w);unfold jw.f at H;replace H:=bO H;obtain ⟨al0,A3,H⟩:=H;obtain rfl:=Option.some.inj H;have Qs:=bc BK1 0;have Qt:=bf BK1 0;go_enter Try.func110,Try.ntmps110;go_wp2_with (first | (go_at_fn Qr;refine dA (args':=Xv ++ #[.slice A0 l0.length c0] ++ Xw) (by simp) ?_;refine (Xx.out l0 _ _ _ A3.out _ (uH HB.out) (by exact uC HR0.out) (by exact HC0.out)).mono ?_;rintro e w5 ⟨rfl,hb⟩;replace BK1:=xB BK1 hb;replace HB:=xH HB hb;(try clear hb)));go_ret;exact ⟨eX,uH HB.out⟩
/-! ### nu: function 51 -/
def nu.f (l0 : List Int) : Option (Int):=(dO.f l0).bind fun Xy=>(some (wrap64 (Xy - 1)))
theorem nu.calls (A0 : Option Addr) (c0 : Nat) (l0 : List Int) (r : Int) (w : World) (hr0 : Kd.C (Kd.int .i64) w A0 l0.length l0) (hc0 : l0.length ≤ c0) (H : nu.f l0 = some r) :
  Calls Try.prog 51 #[.slice A0 l0.length c0] w fun e w'=>e = .returned (.int .i64 r)∧aT w w':=by
 have HR0:=zA hr0;have HC0:=zA hc0;clear hr0 hc0;unfold nu.f at H;replace H:=bO H;obtain ⟨Xy,A2,H⟩:=H;obtain rfl:=Option.some.inj H;go_enter Try.func51,Try.ntmps51;go_wp2_with (first | ((with_reducible refine ae (f:=36) rfl ?_);refine gL (some 4) Try.func36 #[.slice A0 l0.length c0] ?_;(with_reducible refine (dO.calls _ _ l0 Xy _ ?side1 ?side2 A2.out).mono ?_);(case side1=>exact uC HR0.out);(case side2=>exact HC0.out);rintro e w' ⟨rfl,⟨nd,rfl⟩⟩;refine ⟨_,rfl,?_⟩));go_ret;exact ⟨by first | rfl | (simp;done) | (simp [*];done),by repeat (first | exact aT.refl _ | apply aT.step)⟩
/-! ### gP: function 103 -/
def gP.f (l0 : List Int) (jK : Int) : Option (Bool):=if 0 ≤ jK then (if jK < (l0.length : Int) then (some ((rd l0 jK) != 0)) else (none)) else (none)
theorem gP.calls (A0 : Option Addr) (c0 : Nat) (l0 : List Int) (gc1 : Nat) (jK : Int) (r : Bool) (w : World) (hr0 : Kd.C (Kd.int .i64) w A0 l0.length l0) (hc0 : l0.length ≤ c0) (hb1 : w.heap[gc1]? = some (.cells #[.int .i64 jK] 3 (0,0))) (H : gP.f l0 jK = some r) :
  Calls Try.prog 103 #[.slice A0 l0.length c0,.pointer (some ⟨gc1,0,none⟩)] w fun e w'=>e = .returned (.bool r)∧aT w w':=by
 have HR0:=zA hr0;have HC0:=zA hc0;clear hr0 hc0;have BK1:=zA hb1;clear hb1;unfold gP.f at H;replace H:=gD H;obtain ⟨rU,H⟩:=H;replace H:=gD H;obtain ⟨rz,H⟩:=H;obtain rfl:=Option.some.inj H;have Qu:=bc BK1 0;have Qv:=bf BK1 0;have aho : 0 ≤ (jK : Int):=oD;have ahp : jK < (l0.length : Int):=oD;obtain ⟨aAa,avJ,atC⟩:=Kd.ic HR0.out jK aho ahp;cases avJ;replace aho:=eq_true aho;replace ahp:=eq_true ahp;go_enter Try.func103,Try.ntmps103;go_wp2;go_ret;exact ⟨by first | rfl | (simp;done) | (simp [*];done),by repeat (first | exact aT.refl _ | apply aT.step)⟩
/-! ### ib: function 60 -/
def ib.f (a0 : Int) (a1 : Int) : Option (Bool):=if a1 ≥ 0 then (some (decide (a1 < a0))) else (some false)
theorem ib.calls (a0 : Int) (a1 : Int) (r : Bool) (w : World) (H : ib.f a0 a1 = some r) :
  Calls Try.prog 60 #[.int .i64 a0,.int .i64 a1] w fun e w'=>e = .returned (.bool r)∧aT w w':=by
 unfold ib.f at H;replace H:=gI H;obtain ⟨c3,H⟩|⟨c3,H⟩:=H
 ·have rU : decide (0 ≤ a1) = false:=decide_eq_false c3;clear c3;obtain rfl:=Option.some.inj H;go_enter Try.func60,Try.ntmps60;go_wp2;go_ret;exact ⟨by first | rfl | (simp;done) | (simp [*];done),by repeat (first | exact aT.refl _ | apply aT.step)⟩
 have rU : decide (0 ≤ a1) = true:=decide_eq_true c3;clear c3;obtain rfl:=Option.some.inj H;go_enter Try.func60,Try.ntmps60;go_wp2;go_ret;exact ⟨by first | rfl | (simp;done) | (simp [*];done),by repeat (first | exact aT.refl _ | apply aT.step)⟩
/-! ### fF: function 67 -/
def fF.f (a0 : Int) (a1 : Int) : Option (Int):=if a0 = 0 then (none) else (some (Int.tmod (wrap64 ((Int.tmod a1 a0) + a0)) a0))
theorem fF.calls (a0 : Int) (a1 : Int) (r : Int) (w : World) (H : fF.f a0 a1 = some r) :
  Calls Try.prog 67 #[.int .i64 a0,.int .i64 a1] w fun e w'=>e = .returned (.int .i64 r)∧aT w w':=by
 unfold fF.f at H;replace H:=gI H;obtain ⟨c3,H⟩|⟨c3,H⟩:=H
 ·have rU : (a0 == 0) = false:=beq_eq_false_iff_ne.mpr c3;have EN : (a0 != 0) = true:=bne_iff_ne.mpr c3;obtain rfl:=Option.some.inj H;go_enter Try.func67,Try.ntmps67;go_wp2;go_ret;exact ⟨by first | rfl | (simp;done) | (simp [*];done),by repeat (first | exact aT.refl _ | apply aT.step)⟩
 exact absurd H (by simp)
/-! ### je: function 96 -/
def je.f (a0 : Int) (a1 : Int) (a2 : Int) : Option (Int):=(fF.f a0 (wrap64 (a1 * a2))).bind fun ahq=>(some ahq)
theorem je.calls (a0 : Int) (a1 : Int) (a2 : Int) (r : Int) (w : World) (H : je.f a0 a1 a2 = some r) :
  Calls Try.prog 96 #[.int .i64 a0,.int .i64 a1,.int .i64 a2] w fun e w'=>e = .returned (.int .i64 r)∧aT w w':=by
 unfold je.f at H;replace H:=bO H;obtain ⟨ahq,A4,H⟩:=H;obtain rfl:=Option.some.inj H;go_enter Try.func96,Try.ntmps96;go_wp2_with (first | ((with_reducible refine ae (f:=67) rfl ?_);refine gL (some 11) Try.func67 #[.int .i64 a0,.int .i64 (wrap64 (a1 * a2))] ?_;(with_reducible refine (fF.calls a0 (wrap64 (a1 * a2)) ahq _ A4.out).mono ?_);rintro e w' ⟨rfl,⟨nd,rfl⟩⟩;refine ⟨_,rfl,?_⟩));go_ret;exact ⟨by first | rfl | (simp;done) | (simp [*];done),by repeat (first | exact aT.refl _ | apply aT.step)⟩
/-! ### fe: function 92 -/
def fe.l0 : Nat → Int → Int → Int → Int → Option (Int)
 | 0,_,_,_,_=>none
 | k + 1,x0,x1,x2,x7=>if x2 > 0 then (if (Int.tmod x2 2) = 1 then ((je.f x0 x7 x1).bind fun ab4=>((je.f x0 x1 x1).bind fun ab5=>(fe.l0 k x0 ab5 (wrap64 (Int.tdiv x2 2)) ab4))) else ((je.f x0 x1 x1).bind fun ab6=>(fe.l0 k x0 ab6 (wrap64 (Int.tdiv x2 2)) x7))) else (some x7)
def fe.f (k : Nat) (a0 : Int) (a1 : Int) (a2 : Int) : Option (Int):=(fF.f a0 1).bind fun ab7=>(fe.l0 k a0 a1 a2 ab7)
theorem fe.calls (k : Nat) (a0 : Int) (a1 : Int) (a2 : Int) (r : Int) (w : World) (H : fe.f k a0 a1 a2 = some r) :
  Calls Try.prog 92 #[.int .i64 a0,.int .i64 a1,.int .i64 a2] w fun e w'=>e = .returned (.int .i64 r)∧aT w w':=by
 unfold fe.f at H;replace H:=bO H;obtain ⟨ab7,A4,H⟩:=H;have H':=zA H;clear H;go_enter Try.func92,Try.ntmps92;go_wp2_with (first | ((with_reducible refine ae (f:=67) rfl ?_);refine gL (some 9) Try.func67 #[.int .i64 a0,.int .i64 1] ?_;(with_reducible refine (fF.calls a0 1 ab7 _ A4.out).mono ?_);rintro e w' ⟨rfl,⟨nd,rfl⟩⟩;refine ⟨_,rfl,?_⟩));go_loopg [1,2,7] k (fun kq v1 v2 v7 w'=>∃ (EO : Int) (xg : Int) (ny : Int),v1 = .int .i64 EO∧v2 = .int .i64 xg∧v7 = .int .i64 ny∧aa (fe.l0 kq a0 EO xg ny = some r)∧aa (kq ≤ k)∧aT w w');(case atStart=>exact ⟨(a1),(a2),(ab7),eS,eS,eS,H',⟨Nat.le_refl _⟩,by repeat (first | exact aT.refl _ | apply aT.step)⟩)
 case round =>
  clear H';(try clear p2);obtain ⟨EO,xg,ny,rfl,rfl,rfl,HA,HK1,⟨m1,rfl⟩⟩:=hrel
  cases gk with
  | zero=>exact absurd HA.out (by simp [fe.l0])
  | succ k1 =>
   have H:=HA.out;clear HA;simp only [fe.l0] at H;replace H:=gI H;obtain ⟨c5,H⟩|⟨c5,H⟩:=H
   ·have mZ : decide (0 < xg) = false:=decide_eq_false c5;clear c5;obtain rfl:=Option.some.inj H;go_wp2;go_ret;exact ⟨by first | rfl | (simp;done) | (simp [*];done),by repeat (first | exact aT.refl _ | apply aT.step)⟩
   have mZ : decide (0 < xg) = true:=decide_eq_true c5;clear c5;replace H:=gE H;obtain ⟨c6,pU,uQ,H⟩|⟨c6,pU,uQ,H⟩:=H
   ·replace H:=bO H;obtain ⟨ab6,A9,H⟩:=H;have H':=zA H;clear H;go_wp2_with (first | ((with_reducible refine ae (f:=96) rfl ?_);refine gL (some 24) Try.func96 #[.int .i64 a0,.int .i64 EO,.int .i64 EO] ?_;(with_reducible refine (je.calls a0 EO EO ab6 _ A9.out).mono ?_);rintro e w' ⟨rfl,⟨nd,rfl⟩⟩;refine ⟨_,rfl,?_⟩));go_roundg k1;(case measure=>have:=HK1.out;omega);(case rel=>exact ⟨(ab6),(wrap64 (Int.tdiv xg 2)),(ny),eS,eS,eS,H',⟨by have:=HK1.out;omega⟩,by repeat (first | exact aT.refl _ | apply aT.step)⟩)
   clear c6;replace H:=bO H;obtain ⟨ab4,A7,H⟩:=H;replace H:=bO H;obtain ⟨ab5,A8,H⟩:=H;have H':=zA H;clear H;go_wp2_with (first | ((with_reducible refine ae (f:=96) rfl ?_);refine gL (some 20) Try.func96 #[.int .i64 a0,.int .i64 ny,.int .i64 EO] ?_;(with_reducible refine (je.calls a0 ny EO ab4 _ A7.out).mono ?_);rintro e w' ⟨rfl,⟨nd,rfl⟩⟩;refine ⟨_,rfl,?_⟩) | ((with_reducible refine ae (f:=96) rfl ?_);refine gL (some 24) Try.func96 #[.int .i64 a0,.int .i64 EO,.int .i64 EO] ?_;(with_reducible refine (je.calls a0 EO EO ab5 _ A8.out).mono ?_);rintro e w' ⟨rfl,⟨nd,rfl⟩⟩;refine ⟨_,rfl,?_⟩));go_roundg k1;(case measure=>have:=HK1.out;omega);(case rel=>exact ⟨(ab5),(wrap64 (Int.tdiv xg 2)),(ab4),eS,eS,eS,H',⟨by have:=HK1.out;omega⟩,by repeat (first | exact aT.refl _ | apply aT.step)⟩)
/-! ### kC: function 70 -/
def kC.f (k : Nat) (a0 : Int) (a1 : Int) : Option (Int):=(fe.f k a0 a1 (wrap64 (a0 - 2))).bind fun t138=>(some t138)
theorem kC.calls (k : Nat) (a0 : Int) (a1 : Int) (r : Int) (w : World) (H : kC.f k a0 a1 = some r) :
  Calls Try.prog 70 #[.int .i64 a0,.int .i64 a1] w fun e w'=>e = .returned (.int .i64 r)∧aT w w':=by
 unfold kC.f at H;replace H:=bO H;obtain ⟨t138,A3,H⟩:=H;obtain rfl:=Option.some.inj H;go_enter Try.func70,Try.ntmps70;go_wp2_with (first | ((with_reducible refine ae (f:=92) rfl ?_);refine gL (some 9) Try.func92 #[.int .i64 a0,.int .i64 a1,.int .i64 (wrap64 (a0 - 2))] ?_;(with_reducible refine (fe.calls k a0 a1 (wrap64 (a0 - 2)) t138 _ A3.out).mono ?_);rintro e w' ⟨rfl,⟨nd,rfl⟩⟩;refine ⟨_,rfl,?_⟩));go_ret;exact ⟨by first | rfl | (simp;done) | (simp [*];done),by repeat (first | exact aT.refl _ | apply aT.step)⟩
/-! ### jR: function 72 -/
def jR.f (k : Nat) (a0 : Int) (a1 : Int) (a2 : Int) : Option (Int):=(kC.f k a0 a2).bind fun t139=>((je.f a0 a1 t139).bind fun ahr=>(some ahr))
theorem jR.calls (k : Nat) (a0 : Int) (a1 : Int) (a2 : Int) (r : Int) (w : World) (H : jR.f k a0 a1 a2 = some r) :
  Calls Try.prog 72 #[.int .i64 a0,.int .i64 a1,.int .i64 a2] w fun e w'=>e = .returned (.int .i64 r)∧aT w w':=by
 unfold jR.f at H;replace H:=bO H;obtain ⟨t139,A4,H⟩:=H;replace H:=bO H;obtain ⟨ahr,A5,H⟩:=H;obtain rfl:=Option.some.inj H;go_enter Try.func72,Try.ntmps72;go_wp2_with (first | ((with_reducible refine ae (f:=70) rfl ?_);refine gL (some 11) Try.func70 #[.int .i64 a0,.int .i64 a2] ?_;(with_reducible refine (kC.calls k a0 a2 t139 _ A4.out).mono ?_);rintro e w' ⟨rfl,⟨nd,rfl⟩⟩;refine ⟨_,rfl,?_⟩) | ((with_reducible refine ae (f:=96) rfl ?_);refine gL (some 12) Try.func96 #[.int .i64 a0,.int .i64 a1,.int .i64 t139] ?_;(with_reducible refine (je.calls a0 a1 t139 ahr _ A5.out).mono ?_);rintro e w' ⟨rfl,⟨nd,rfl⟩⟩;refine ⟨_,rfl,?_⟩));go_ret;exact ⟨by first | rfl | (simp;done) | (simp [*];done),by repeat (first | exact aT.refl _ | apply aT.step)⟩
/-! ### ja: function 61 -/
def ja.l0 : Nat → List Int → Option (List Int)
 | 0,_=>none
 | k + 1,x0=>if (x0.length : Int) > 0 then (if 0 ≤ (wrap64 ((x0.length : Int) - 1)) then (if (wrap64 ((x0.length : Int) - 1)) < (x0.length : Int) then (if (rd x0 (wrap64 ((x0.length : Int) - 1))) = 0 then (if (wrap64 ((x0.length : Int) - 1)) ≤ (x0.length : Int) then (ja.l0 k (x0.take ((wrap64 ((x0.length : Int) - 1)) : Int).toNat)) else (none)) else (some x0)) else (none)) else (none)) else (some x0)
def ja.f (k : Nat) (l0 : List Int) : Option (List Int):=ja.l0 k l0
theorem ja.calls (k : Nat) (P0_ : Nat → Prop) (Cy : Value) (l0 : List Int) (r : List Int) (w0 w : World) (hB : Below w0.heap.size w0 w) (ho0 : Kd.R (Kd.int .i64) 2 w w0.heap.size P0_ Cy l0) (H : ja.f k l0 = some r) :
  Calls Try.prog 61 #[Cy] w fun e w'=>∃ v0_ : Value,e = .returned (v0_)∧Kd.R (Kd.int .i64) 2 w' w0.heap.size (fun k_=>(P0_ k_ ∨ w.heap.size ≤ k_)) v0_ r∧Below w0.heap.size w0 w'∧Kept w w' (fun k_=>P0_ k_):=by
 have HO0:=zA (show Kd.R (Kd.int .i64) 2 w w0.heap.size (fun k_=>(P0_ k_ ∨ w.heap.size ≤ k_)) Cy l0 from Kd.ag ho0 (fun k_ hk=>(.inl hk)));have HK:=zA (Kept.refl w (fun k_=>P0_ k_));have HW0:=zA hB.size;have HB:=zA hB;clear hB;unfold ja.f at H;have H':=zA H;clear H;go_enter Try.func61,Try.ntmps61;go_wp2;go_loopg [0] k (fun kq v0 w'=>∃ (Cz : List Int),aa (ja.l0 kq Cz = some r)∧aa (kq ≤ k)∧aa (Kd.R (Kd.int .i64) 2 w' w0.heap.size (fun k_=>(P0_ k_ ∨ w.heap.size ≤ k_)) v0 Cz)∧aa (Kept w w' (fun k_=>P0_ k_))∧aa (Below w0.heap.size w0 w'));(case atStart=>exact ⟨(l0),H',⟨Nat.le_refl _⟩,⟨uR HO0.out⟩,⟨by repeat (first | (with_reducible first | exact HK.out | apply Kept.alloc | apply Kept.drewN | apply Kept.drew) | exact HK.out)⟩,⟨uH HB.out⟩⟩)
 case round =>
  clear H';obtain ⟨Cz,HA,HK1,JG,HK,HB⟩:=hrel
  cases gk with
  | zero=>exact absurd HA.out (by simp [ja.l0])
  | succ k1 =>
   have H:=HA.out;clear HA;simp only [ja.l0] at H;replace H:=gI H;obtain ⟨c2,H⟩|⟨c2,H⟩:=H
   ·have ahs : decide (0 < (Cz.length : Int)) = false:=decide_eq_false c2;have avK : decide (0 < Cz.length) = false:=decide_eq_false (by omega);clear c2;obtain rfl:=Option.some.inj H;obtain ⟨ma,mf,rfl⟩:=Kd.aY JG.out;go_wp2;go_ret;exact ⟨_,eX,uR JG.out,uH HB.out,by repeat (first | (with_reducible first | exact HK.out | apply Kept.alloc | apply Kept.drewN | apply Kept.drew) | exact HK.out)⟩
   have ahs : decide (0 < (Cz.length : Int)) = true:=decide_eq_true c2;have avK : decide (0 < Cz.length) = true:=decide_eq_true (by omega);clear c2;obtain ⟨ji3,JH⟩ : ∃ j_ : Int,(wrap64 ((Cz.length : Int) - 1)) = j_:=⟨_,rfl⟩;(first | rw [JH] at H | simp only [JH] at H);have al1 : (IntKind.i64.wrap ((Cz.length : Int) - 1)) = ji3:=(jd _).trans JH;replace H:=gD H;obtain ⟨rz,H⟩:=H;replace H:=gD H;obtain ⟨mZ,H⟩:=H;replace H:=gE H;obtain ⟨c6,pU,uQ,H⟩|⟨c6,pU,uQ,H⟩:=H
   ·obtain rfl:=Option.some.inj H;obtain ⟨aht,ahu,rfl⟩:=Kd.aY JG.out;have Qw : 0 ≤ ((ji3) : Int):=oD;have Qx : (ji3) < (Cz.length : Int):=oD;obtain ⟨aeY,ahv,ab8⟩:=Kd.ic (Kd.aH JG.out).2.2 (ji3) Qw Qx;cases ahv;replace Qw:=eq_true Qw;replace Qx:=eq_true Qx;go_wp2;go_ret;exact ⟨_,by first | rfl | (simp [dP,dQ] <;> rfl) | (simp only [← JH];first | rfl | (simp [dP,dQ] <;> rfl)) | (simp [*,dP,dQ] <;> rfl),uR JG.out,uH HB.out,by repeat (first | (with_reducible first | exact HK.out | apply Kept.alloc | apply Kept.drewN | apply Kept.drew) | exact HK.out)⟩
   clear c6;replace H:=gN H;obtain ⟨c7,H⟩:=H;have Ce:=eq_true c7;have EP : decide ((ji3) ≤ (Cz.length : Int)) = true:=decide_eq_true c7;clear c7;obtain ⟨al2,Xz⟩:=eY (Cz.take ((ji3) : Int).toNat : List Int);(try rw [←Xz.out] at H);have H':=zA H;clear H;obtain ⟨Ao8,co8,rfl⟩:=Kd.aY JG.out;have Qw : 0 ≤ ((ji3) : Int):=oD;have Qx : (ji3) < (Cz.length : Int):=oD;obtain ⟨aeY,ahv,ab8⟩:=Kd.ic (Kd.aH JG.out).2.2 (ji3) Qw Qx;cases ahv;replace Qw:=eq_true Qw;replace Qx:=eq_true Qx;have q9 : ((ji3) : Int) ≤ ((Cz.length : Int) : Int):=oD;obtain ⟨i09,al3,_,avL,_⟩:=info_parts lm;have al4:=ahw (P:=Try.prog) 24 2 .i64 Try.underlying24 al3 (some aeY) Cz.length co8 (ji3) (of_decide_eq_true (by first | (with_reducible assumption) | assumption)) q9 (Kd.aH JG.out).2.1;have hr9:=Kd.Qy (m:=((ji3) : Int).toNat) JG.out (by omega);have hy9 : al2.length = ((ji3) : Int).toNat:=(by rw [Xz.out,List.length_take];omega);rw [← Xz.out] at hr9;rw [← hy9] at hr9 al4;clear hy9 al3 avL JG;have al5:=zA hr9;clear hr9;replace q9:=eq_true q9;go_wp2;go_roundg k1;(case measure=>have:=HK1.out;omega);(case rel=>exact ⟨(al2),H',⟨by have:=HK1.out;omega⟩,⟨uR al5.out⟩,⟨by repeat (first | (with_reducible first | exact HK.out | apply Kept.alloc | apply Kept.drewN | apply Kept.drew) | exact HK.out)⟩,⟨uH HB.out⟩⟩)
/-! ### iI: function 97 -/
def iI.l0 : Nat → Int → Int → List Int → List Int → Int → Int → Option (List Int)
 | 0,_,_,_,_,_,_=>none
 | k + 1,x0,x3,x9,x21,x22,x23=>if x23 < x22 then (if 0 ≤ x23 then (if x23 < (x21.length : Int) then (if x23 < (x9.length : Int) then ((fF.f x0 (wrap64 ((rd x9 x23) + (wrap64 (x3 * (rd x21 x23)))))).bind fun VO=>(iI.l0 k x0 x3 (x9.set (x23 : Int).toNat VO) x21 x22 (wrap64 (x23 + 1)))) else (none)) else (none)) else (none)) else ((ja.f k x9).bind fun ahx=>(some ahx))
def iI.f (k : Nat) (a0 : Int) (l1 : List Int) (l2 : List Int) (a3 : Int) : Option (List Int):=if 0 ≤ (mx (l1.length : Int) (l2.length : Int)) then (if (mx (l1.length : Int) (l2.length : Int) : Int).toNat ≤ 35184372088832 then (iI.l0 k a0 a3 (cpy (List.replicate (mx (l1.length : Int) (l2.length : Int) : Int).toNat 0) l1) l2 (l2.length : Int) 0) else (none)) else (none)
theorem iI.calls (k : Nat) (a0 : Int) (A1 : Option Addr) (c1 : Nat) (l1 : List Int) (A2 : Option Addr) (c2 : Nat) (l2 : List Int) (a3 : Int) (r : List Int) (w : World) (hr1 : Kd.C (Kd.int .i64) w A1 l1.length l1) (hc1 : l1.length ≤ c1) (hr2 : Kd.C (Kd.int .i64) w A2 l2.length l2) (hc2 : l2.length ≤ c2) (H : iI.f k a0 l1 l2 a3 = some r) :
  Calls Try.prog 97 #[.int .i64 a0,.slice A1 l1.length c1,.slice A2 l2.length c2,.int .i64 a3] w fun e w'=>∃ v0_ : Value,e = .returned (v0_)∧Kd.R (Kd.int .i64) 2 w' w.heap.size (fun _=>True) v0_ r∧Below w.heap.size w w':=by
 have HR1:=zA hr1;have HC1:=zA hc1;clear hr1 hc1;have HR2:=zA hr2;have HC2:=zA hc2;clear hr2 hc2;have HB:=zA (Below.refl w.heap.size w);unfold iI.f at H;obtain ⟨ji5,qF⟩ : ∃ j_ : Int,(mx (l1.length : Int) (l2.length : Int)) = j_:=⟨_,rfl⟩;(first | rw [qF] at H | simp only [qF] at H);(try (have al6 : 0 ≤ ji5:=by (rw [← qF];unfold mx;(repeat' split) <;> omega)));(try (have al7 : 0 ≤ ji5:=by omega));have J5 : (if (l1.length : Int) < (l2.length : Int) then (l2.length : Int) else (l1.length : Int)) = ji5:=qF;(try (have al8 : (if l1.length < l2.length then (l2.length : Int) else (l1.length : Int)) = ji5:=by have h_:=J5;simpa only [Int.ofNat_lt] using h_));replace H:=gN H;obtain ⟨c6,H⟩:=H;have pU:=eq_true c6;have uQ : decide (0 ≤ (ji5)) = true:=decide_eq_true c6;clear c6;replace H:=gN H;obtain ⟨c7,H⟩:=H;have Ce:=eq_true c7;have EP : decide ((ji5 : Int).toNat ≤ 35184372088832) = true:=decide_eq_true c7;clear c7;obtain ⟨al9,XA⟩:=eY (List.replicate (ji5 : Int).toNat 0 : List Int);(try rw [←XA.out] at H);obtain ⟨avM,aeZ⟩:=eY (cpy al9 l1 : List Int);(try rw [←aeZ.out] at H);have H':=zA H;clear H;go_enter Try.func97,Try.ntmps97;go_wp2_with (first | ((with_reducible refine bI (N:=17) rfl ?_);refine Kd.Lc (Kd.int .i64) _ 2 rfl (N:=17) rfl 24 _ _ rfl ji5 rfl rfl Try.underlying24 (.int .i64 0) 8 lm rfl (by decide) (by omega) 0 (ok:=fun _=>True) (okp:=fun _=>True) rfl (fun _ hk=>hk) trivial (of_decide_eq_true (by first | (with_reducible assumption) | assumption)) (Nat.le_trans (Nat.mul_le_mul_right _ (of_decide_eq_true (by first | (with_reducible assumption) | assumption) : ji5.toNat ≤ 35184372088832)) (by omega)) (Below.refl _ _) (Nat.le_refl _) ?_;intro ama w8 ho9 hb hg_ hnew_;clear hg_ hnew_;(first | rw [← XA.out] at ho9 | (simp only [Int.reduceToNat] at ho9;rw [← XA.out] at ho9));have ae0:=zA (Kd.bD ho9 (af (uH HB.out)));replace HB:=xH HB hb;clear hb ho9) | ((with_reducible refine eO (b:=.copy) (xs:=#[.tmp 18,.tmp 19]) rfl ?_);skip;refine Qp (k:=.i64) (w0:=w) w.heap.size ?g1 (.tmp 18) (.tmp 19) 24 24 2 ?g2 ?g3 (.int .i64 0) 8 ?g4 ama al9 l1 ?g5 ?g6 ?g7 (fun _=>True) ?g8 ?g9 ?aO ?aR ?aB ?aS ?_;(case g1=>rfl);(case g2=>rfl);(case g3=>exact Try.underlying24);(case g4=>exact lm);(case g8=>rfl);(case g9=>rfl);(case aR=>exact uC ((Kd.aQ HR1.out HB.out)));(case aB=>exact (uH HB.out));(case aO=>exact (uR ae0.out));(case aS=>exact (af (uH HB.out)));skip;intro w10 ho hb hg hat;rw [← aeZ.out] at ho;replace HB:=zA (hb);have amb:=zA (ho);clear ae0 ho hb hg hat));go_loopg [23] k (fun kq v23 w'=>∃ (nZ : List Int) (sD : Int),v23 = .int .i64 sD∧aa (iI.l0 kq a0 a3 nZ l2 (l2.length : Int) sD = some r)∧aa (kq ≤ k)∧aa (Kd.R (Kd.int .i64) 2 w' w.heap.size (fun _=>True) ama nZ)∧aa (Below w.heap.size w w'));(case atStart=>exact ⟨(avM),(0),eS,H',⟨Nat.le_refl _⟩,⟨uR amb.out⟩,⟨uH HB.out⟩⟩)
 case round =>
  clear H';(try clear c1);(try clear c2);(try clear p2);(try clear c6);(try clear pU);(try clear uQ);(try clear c7);(try clear Ce);(try clear EP);(try clear c9);obtain ⟨nZ,sD,rfl,HA,HK1,jD,HB⟩:=hrel
  cases gk with
  | zero=>exact absurd HA.out (by simp [iI.l0])
  | succ k1 =>
   have H:=HA.out;clear HA;simp only [iI.l0] at H;replace H:=gF H;obtain ⟨wV,H⟩|⟨wV,H⟩:=H
   ·replace H:=bO H;obtain ⟨ahx,A20,H⟩:=H;obtain rfl:=Option.some.inj H;obtain ⟨ng,mQ,rfl⟩:=Kd.aY jD.out;go_wp2_with (first | ((with_reducible refine ae (f:=61) rfl ?_);refine gL (some 43) Try.func61 #[.slice ng nZ.length mQ] ?_;(with_reducible refine (ja.calls k1 (fun k_=>some k_ = (.slice ng nZ.length mQ : Value).ownBlock) (.slice ng nZ.length mQ) nZ ahx w _ ?side1 ?side2 A20.out).mono ?_);(case side1=>exact uH HB.out);(case side2=>exact Kd.zq rfl jD.out);rintro e w22 ⟨aCk,rfl,ho0,hb,hkp⟩;refine ⟨_,rfl,?_⟩;have amc:=zA (Kd.ag (ok':=fun k_=>True) ho0 (fun k_ hk_=>trivial));replace HB:=zA (hb);clear jD;(try clear hb);(try clear hkp);(try clear ho0)));go_ret;exact ⟨_,by first | rfl | (simp [dP,dQ] <;> rfl) | (simp only [← qF];first | rfl | (simp [dP,dQ] <;> rfl)) | (simp [*,dP,dQ] <;> rfl),uR amc.out,uH HB.out⟩
   replace H:=gD H;obtain ⟨Dv,H⟩:=H;replace H:=gD H;obtain ⟨Tk,H⟩:=H;replace H:=gD H;obtain ⟨Cn,H⟩:=H;replace H:=bO H;obtain ⟨VO,A15,H⟩:=H;obtain ⟨amd,ae1⟩:=eY (nZ.set (sD : Int).toNat VO : List Int);(try rw [←ae1.out] at H);have H':=zA H;clear H;have ahy : 0 ≤ (sD : Int):=oD;have ahz : sD < (l2.length : Int):=oD;obtain ⟨aAb,avN,Tm⟩:=Kd.ic HR2.out sD ahy ahz;cases avN;replace Tm:=hc HB Tm;replace ahy:=eq_true ahy;replace ahz:=eq_true ahz;obtain ⟨oI,nU,rfl⟩:=Kd.aY jD.out;have ahA : 0 ≤ (sD : Int):=oD;have ahB : sD < (nZ.length : Int):=oD;obtain ⟨ame,avO,ab9⟩:=Kd.ic (Kd.aH jD.out).2.2 sD ahA ahB;cases avO;replace ahA:=eq_true ahA;replace ahB:=eq_true ahB;go_wp2_with (first | ((with_reducible refine ae (f:=67) rfl ?_);refine gL (some 39) Try.func67 #[.int .i64 a0,.int .i64 (wrap64 ((rd nZ sD) + (wrap64 (a3 * (rd l2 sD)))))] ?_;(with_reducible refine (fF.calls a0 (wrap64 ((rd nZ sD) + (wrap64 (a3 * (rd l2 sD))))) VO _ A15.out).mono ?_);rintro e w' ⟨rfl,⟨nd,rfl⟩⟩;refine ⟨_,rfl,?_⟩;(try (rw [uY wr];generalize hq_ : World.drewN wr _ = wr;have n0_ : aa (Kd.R (Kd.int .i64) 2 wr w.heap.size (fun _=>True) (.slice (some ame) nZ.length nU) nZ):=⟨by rw [← hq_];exact (uR jD.out)⟩;have n1_ : aa (Below w.heap.size w wr):=⟨by rw [← hq_];exact (uH HB.out)⟩;clear jD HB hq_;have jD:=n0_;have HB:=n1_;clear n0_ n1_));have p16 : 0 ≤ (sD : Int):=of_decide_eq_true (by first | (with_reducible assumption) | assumption);have q16 : (sD : Int) < ((nZ.length : Int) : Int):=of_decide_eq_true (by first | (with_reducible assumption) | assumption);obtain ⟨ahC,XB,VP,amf,avP,aCl,amg⟩:=Kd.AQ jD.out (by omega);(first | cases VP | (injection VP with ea_ en_ ec_;(first | subst ea_ | (injection ea_ with ea_;subst ea_));subst ec_;clear en_));have amh:=zA amf;have:=geI amh;have aCm:=zA amg;clear amf avP amg;(first | simp only [add_plain] at ab9 | skip);obtain ⟨avQ,avR⟩:=Kd.yu 0 jD.out (sD : Int) p16 q16;replace p16:=eq_true p16;replace q16:=eq_true q16;obtain ⟨aAc,aAd⟩:=Kd.yu 0 jD.out (sD : Int) (of_decide_eq_true (by first | (with_reducible assumption) | assumption)) (of_decide_eq_true (by first | (with_reducible assumption) | assumption));have ahD:=Kd.Qz jD.out (sD : Int) VO) | ((with_reducible refine tK (t:=2) (p:=40) rfl ?_);refine rF (t:=2) (p:=40) (v:=?avS) (w1:=(wr.setCell ⟨ahC,(sD : Int).toNat,none⟩ (.int .i64 VO))) ?hg ?ho ?hn ?hr ?_;(case ho=>rfl);(case hg=>rfl);(case hn=>rfl);(case hr=>first | (go_simp;done) | (go_simp;rfl));intro w19 hw;have hg : wr.grownBy w19 (some ahC):=(by rw [hw];exact ahD.2);have hp_ : Kd.R (Kd.int .i64) 2 w19 w.heap.size (fun _=>True) (.slice (some ⟨ahC,0,none⟩) nZ.length nU) amd:=(by rw [hw,ae1.out];exact ahD.1);clear ahD;replace jD:=zA (hp_);replace HB:=zA ((by rw [hw];exact mO (HB.out) amh.out : Below w.heap.size w w19));clear hg hw hp_));go_roundg k1;(case measure=>have:=HK1.out;omega);(case rel=>exact ⟨(amd),(wrap64 (sD + 1)),eS,H',⟨by have:=HK1.out;omega⟩,⟨uR jD.out⟩,⟨uH HB.out⟩⟩)
/-! ### aV: function 39 -/
mutual
def aV.j0 : Nat → Int → List Int → List Int → Bool → Option (List Int)
 | 0,_,_,_,_=>none
 | k + 1,x0,x1,x2,x19=>if x19 = true then (some ([] : List Int)) else (if 0 ≤ (wrap64 ((wrap64 ((x1.length : Int) + (x2.length : Int))) - 1)) then (if (wrap64 ((wrap64 ((x1.length : Int) + (x2.length : Int))) - 1) : Int).toNat ≤ 35184372088832 then (aV.l0 k x0 x2 (List.replicate (wrap64 ((wrap64 ((x1.length : Int) + (x2.length : Int))) - 1) : Int).toNat 0) x1 (x1.length : Int) 0) else (none)) else (none))
def aV.l0 : Nat → Int → List Int → List Int → List Int → Int → Int → Option (List Int)
 | 0,_,_,_,_,_,_=>none
 | k + 1,x0,x2,x7,x27,x28,x29=>if x29 < x28 then (if 0 ≤ x29 then (if x29 < (x27.length : Int) then (aV.l1 k x0 x2 x7 x29 (rd x27 x29) x27 x28 x29 x2 (x2.length : Int) 0) else (none)) else (none)) else ((ja.f k x7).bind fun ahE=>(some ahE))
def aV.l1 : Nat → Int → List Int → List Int → Int → Int → List Int → Int → Int → List Int → Int → Int → Option (List Int)
 | 0,_,_,_,_,_,_,_,_,_,_,_=>none
 | k + 1,x0,x2,x7,x8,x9,x27,x28,x29,x34,x35,x36=>if x36 < x35 then (if 0 ≤ x36 then (if x36 < (x34.length : Int) then (if 0 ≤ (wrap64 (x8 + x36)) then (if (wrap64 (x8 + x36)) < (x7.length : Int) then ((fF.f x0 (wrap64 ((rd x7 (wrap64 (x8 + x36))) + (wrap64 (x9 * (rd x34 x36)))))).bind fun VQ=>(aV.l1 k x0 x2 (x7.set ((wrap64 (x8 + x36)) : Int).toNat VQ) x8 x9 x27 x28 x29 x34 x35 (wrap64 (x36 + 1)))) else (none)) else (none)) else (none)) else (none)) else (aV.l0 k x0 x2 x7 x27 x28 (wrap64 (x29 + 1)))
end
def aV.f (k : Nat) (a0 : Int) (l1 : List Int) (l2 : List Int) : Option (List Int):=if (l1.length : Int) = 0 then (aV.j0 k a0 l1 l2 true) else (aV.j0 k a0 l1 l2 ((l2.length : Int) == 0))
theorem aV.calls (k : Nat) (a0 : Int) (A1 : Option Addr) (c1 : Nat) (l1 : List Int) (A2 : Option Addr) (c2 : Nat) (l2 : List Int) (r : List Int) (w : World) (hr1 : Kd.C (Kd.int .i64) w A1 l1.length l1) (hc1 : l1.length ≤ c1) (hr2 : Kd.C (Kd.int .i64) w A2 l2.length l2) (hc2 : l2.length ≤ c2) (H : aV.f k a0 l1 l2 = some r) :
  Calls Try.prog 39 #[.int .i64 a0,.slice A1 l1.length c1,.slice A2 l2.length c2] w fun e w'=>∃ v0_ : Value,e = .returned (v0_)∧Kd.R (Kd.int .i64) 2 w' w.heap.size (fun _=>True) v0_ r∧Below w.heap.size w w':=by
 have HR1:=zA hr1;have HC1:=zA hc1;clear hr1 hc1;have HR2:=zA hr2;have HC2:=zA hc2;clear hr2 hc2;have HB:=zA (Below.refl w.heap.size w);unfold aV.f at H;have HC4:=zA H;clear H;go_enter Try.func39,Try.ntmps39;go_upto_region 1 with (fail);go_cut [19] (fun v19 wc=>∃ (kq : Nat) (XC : Bool),v19 = .bool XC∧aa (aV.j0 kq a0 l1 l2 XC = some r)∧aa (kq ≤ k)∧aa (Below w.heap.size w wc))
 case first =>
  have H:=HC4.out;clear HC4;replace H:=gE H;obtain ⟨c5,mZ,uS,H⟩|⟨c5,mZ,uS,H⟩:=H
  ·have QA : ¬ (l1 = []):=fun h_=>c5 (by rw [h_];rfl);(first | rw [mZ] | (simp only [jd,kQ];rw [mZ]) | skip);have H':=zA H;clear H;go_wp2;go_meet;(case rel=>exact ⟨_,(((l2.length : Int) == 0)),eS,H',⟨by first | omega | exact Nat.le_refl _⟩,⟨uH HB.out⟩⟩)
  clear c5;(first | rw [mZ] | (simp only [jd,kQ];rw [mZ]) | skip);have H':=zA H;clear H;go_wp2;go_meet;(case rel=>exact ⟨_,(true),eS,H',⟨by first | omega | exact Nat.le_refl _⟩,⟨uH HB.out⟩⟩)
 case rest =>
  clear HC4;(try clear c1);(try clear c2);(try clear p2);(try clear c3);(try clear c5);(try clear mZ);(try clear uS);(try clear QA);obtain ⟨kq,XC,rfl,HA,HJ3,HB⟩:=hcut
  cases kq with
  | zero=>exact absurd HA.out (by simp [aV.j0])
  | succ kj3 =>
   have H:=HA.out;clear HA;simp only [aV.j0] at H;replace H:=gB H;obtain ⟨rfl,H⟩|⟨rfl,H⟩:=H
   ·obtain rfl:=Option.some.inj H;go_wp2;go_ret;exact ⟨_,eX,by first | exact Kd.qZ _ _ _ _ _ | exact Kd.J6 _ _ _ _ _ | exact Kd.yf _ _ _ _ _ | exact Kd.Ab _ _ _ _ _ | exact Kd.Aa _ _ _ _ _,uH HB.out⟩
   ·obtain ⟨ji7,EQ⟩ : ∃ j_ : Int,(wrap64 ((wrap64 ((l1.length : Int) + (l2.length : Int))) - 1)) = j_:=⟨_,rfl⟩;(first | rw [EQ] at H | simp only [EQ] at H);have ae2 : (IntKind.i64.wrap ((wrap64 ((l1.length : Int) + (l2.length : Int))) - 1)) = ji7:=(jd _).trans EQ;replace H:=gN H;obtain ⟨c8,H⟩:=H;have uT:=eq_true c8;have Gc : decide (0 ≤ (ji7)) = true:=decide_eq_true c8;clear c8;replace H:=gN H;obtain ⟨c9,H⟩:=H;have CB:=eq_true c9;have JI : decide ((ji7 : Int).toNat ≤ 35184372088832) = true:=decide_eq_true c9;clear c9;obtain ⟨avT,XD⟩:=eY (List.replicate (ji7 : Int).toNat 0 : List Int);(try rw [←XD.out] at H);have H':=zA H;clear H;go_wp2_with (first | ((with_reducible refine bI (N:=26) rfl ?_);(try (refine qw (by rfl) ?_;dsimp only));refine Kd.Lc (Kd.int .i64) _ 2 rfl (N:=26) rfl 24 _ _ rfl ji7 rfl rfl Try.underlying24 (.int .i64 0) 8 lm rfl (by decide) (by omega) 0 (ok:=fun _=>True) (okp:=fun _=>True) rfl (fun _ hk=>hk) trivial (of_decide_eq_true (by first | (with_reducible assumption) | assumption)) (Nat.le_trans (Nat.mul_le_mul_right _ (of_decide_eq_true (by first | (with_reducible assumption) | assumption) : ji7.toNat ≤ 35184372088832)) (by omega)) (Below.refl _ _) (Nat.le_refl _) ?_;intro ami w10 xh hb hg_ hnew_;clear hg_ hnew_;(first | rw [← XD.out] at xh | (simp only [Int.reduceToNat] at xh;rw [← XD.out] at xh));have amj:=zA (Kd.bD xh (af (uH HB.out)));replace HB:=xH HB hb;clear hb xh));go_loopg [29] kj3 (fun kq v29 w'=>∃ (CE : List Int) (yw : Int),v29 = .int .i64 yw∧aa (aV.l0 kq a0 l2 CE l1 (l1.length : Int) yw = some r)∧aa (kq ≤ kj3)∧aa (Kd.R (Kd.int .i64) 2 w' w.heap.size (fun _=>True) ami CE)∧aa (Below w.heap.size w w'));(case atStart=>exact ⟨(avT),(0),eS,H',⟨Nat.le_refl _⟩,⟨uR amj.out⟩,⟨uH HB.out⟩⟩)
    case round =>
     clear H';(try clear c1);(try clear c2);(try clear p2);(try clear c3);(try clear c5);(try clear mZ);(try clear uS);(try clear QA);(try clear c6);(try clear p6);(try clear c8);(try clear uT);(try clear Gc);(try clear c9);(try clear CB);(try clear JI);(try clear p2);obtain ⟨CE,yw,rfl,HA,HK2,iX,HB⟩:=hrel
     cases gk with
     | zero=>exact absurd HA.out (by simp [aV.l0])
     | succ k2 =>
      have H:=HA.out;clear HA;simp only [aV.l0] at H;replace H:=gF H;obtain ⟨Dv,H⟩|⟨Dv,H⟩:=H
      ·replace H:=bO H;obtain ⟨ahE,A26,H⟩:=H;obtain rfl:=Option.some.inj H;obtain ⟨Ld,Le,rfl⟩:=Kd.aY iX.out;go_wp2_with (first | ((with_reducible refine ae (f:=61) rfl ?_);refine gL (some 61) Try.func61 #[.slice Ld CE.length Le] ?_;(with_reducible refine (ja.calls k2 (fun k_=>some k_ = (.slice Ld CE.length Le : Value).ownBlock) (.slice Ld CE.length Le) CE ahE w _ ?side1 ?side2 A26.out).mono ?_);(case side1=>exact uH HB.out);(case side2=>exact Kd.zq rfl iX.out);rintro e w28 ⟨aCn,rfl,ho0,hb,hkp⟩;refine ⟨_,rfl,?_⟩;have amk:=zA (Kd.ag (ok':=fun k_=>True) ho0 (fun k_ hk_=>trivial));replace HB:=zA (hb);clear iX;(try clear hb);(try clear hkp);(try clear ho0)));go_ret;exact ⟨_,by first | rfl | (simp [dP,dQ] <;> rfl) | (simp only [← EQ];first | rfl | (simp [dP,dQ] <;> rfl)) | (simp [*,dP,dQ] <;> rfl),uR amk.out,uH HB.out⟩
      replace H:=gD H;obtain ⟨Tk,H⟩:=H;replace H:=gD H;obtain ⟨Cn,H⟩:=H;have H':=zA H;clear H;have aca : 0 ≤ (yw : Int):=oD;have acb : yw < (l1.length : Int):=oD;obtain ⟨aAe,avU,Lf⟩:=Kd.ic HR1.out yw aca acb;cases avU;replace Lf:=hc HB Lf;replace aca:=eq_true aca;replace acb:=eq_true acb;go_wp2;go_loopg [36] k2 (fun kq v36 w'=>∃ (xJ : List Int) (AR : Int),v36 = .int .i64 AR∧aa (aV.l1 kq a0 l2 xJ yw (rd l1 yw) l1 (l1.length : Int) yw l2 (l2.length : Int) AR = some r)∧aa (kq ≤ k2)∧aa (Kd.R (Kd.int .i64) 2 w' w.heap.size (fun _=>True) ami xJ)∧aa (Below w.heap.size w w'));(case atStart=>exact ⟨(CE),(0),eS,H',⟨Nat.le_refl _⟩,⟨uR iX.out⟩,⟨uH HB.out⟩⟩)
      case round =>
       clear H';(try clear c1);(try clear c2);(try clear p2);(try clear c3);(try clear p4);(try clear q4);(try clear hx4);(try clear c5);(try clear mZ);(try clear uS);(try clear QA);(try clear c6);(try clear p6);(try clear c8);(try clear uT);(try clear Gc);(try clear c9);(try clear CB);(try clear JI);(try clear c12);(try clear Dv);(try clear c13);(try clear Tk);(try clear c14);(try clear Cn);(try clear Lf);(try clear p2);(try clear aca);(try clear p6);(try clear acb);obtain ⟨xJ,AR,rfl,HA,HK3,iX,HB⟩:=hrel
       cases gk with
       | zero=>exact absurd HA.out (by simp [aV.l1])
       | succ k3 =>
        have H:=HA.out;clear HA;simp only [aV.l1] at H;replace H:=gF H;obtain ⟨oU,H⟩|⟨oU,H⟩:=H
        ·have H':=zA H;clear H;go_wp2;go_roundg k3;(case measure=>have:=HJ3.out;have:=HK2.out;have:=HK3.out;omega);(case rel=>exact ⟨(xJ),(wrap64 (yw + 1)),eS,H',⟨by have:=HJ3.out;have:=HK2.out;have:=HK3.out;omega⟩,⟨uR iX.out⟩,⟨uH HB.out⟩⟩)
        replace H:=gD H;obtain ⟨ym,H⟩:=H;replace H:=gD H;obtain ⟨Ie,H⟩:=H;obtain ⟨ER,Tn⟩ : ∃ j_ : Int,(wrap64 (yw + AR)) = j_:=⟨_,rfl⟩;(first | rw [Tn] at H | simp only [Tn] at H);have avV : (IntKind.i64.wrap (yw + AR)) = ER:=(jd _).trans Tn;replace H:=gD H;obtain ⟨rZ,H⟩:=H;replace H:=gD H;obtain ⟨Dw,H⟩:=H;replace H:=bO H;obtain ⟨VQ,A21,H⟩:=H;obtain ⟨aml,ae3⟩:=eY (xJ.set ((ER) : Int).toNat VQ : List Int);(try rw [←ae3.out] at H);have H':=zA H;clear H;have ahF : 0 ≤ (AR : Int):=oD;have ahG : AR < (l2.length : Int):=oD;obtain ⟨aAf,avW,Tp⟩:=Kd.ic HR2.out AR ahF ahG;cases avW;replace Tp:=hc HB Tp;replace ahF:=eq_true ahF;replace ahG:=eq_true ahG;obtain ⟨lT,lD,rfl⟩:=Kd.aY iX.out;have ahH : 0 ≤ ((ER) : Int):=oD;have ahI : (ER) < (xJ.length : Int):=oD;obtain ⟨amm,avX,acd⟩:=Kd.ic (Kd.aH iX.out).2.2 (ER) ahH ahI;cases avX;replace ahH:=eq_true ahH;replace ahI:=eq_true ahI;go_wp2_with (first | ((with_reducible refine ae (f:=67) rfl ?_);refine uq (some 56) rfl rfl Try.func67 (by kernel_rfl) rfl #[.int .i64 a0,.int .i64 (wrap64 ((rd xJ (ER)) + (wrap64 ((rd l1 yw) * (rd l2 AR)))))] rfl (by (try simp only [la,lb,lc]);first | done | (simp only [Tn];rfl) | rfl | (simp only [ld,le];rfl)) ?_;(with_reducible refine (fF.calls a0 (wrap64 ((rd xJ (ER)) + (wrap64 ((rd l1 yw) * (rd l2 AR))))) VQ _ A21.out).mono ?_);rintro e w' ⟨rfl,⟨nd,rfl⟩⟩;refine ⟨_,rfl,?_⟩;(try (rw [uY wr];generalize hq_ : World.drewN wr _ = wr;have n0_ : aa (Kd.R (Kd.int .i64) 2 wr w.heap.size (fun _=>True) (.slice (some amm) xJ.length lD) xJ):=⟨by rw [← hq_];exact (uR iX.out)⟩;have n1_ : aa (Below w.heap.size w wr):=⟨by rw [← hq_];exact (uH HB.out)⟩;clear iX HB hq_;have iX:=n0_;have HB:=n1_;clear n0_ n1_));have p22 : 0 ≤ ((ER) : Int):=of_decide_eq_true (by first | (with_reducible assumption) | assumption);have q22 : ((ER) : Int) < ((xJ.length : Int) : Int):=of_decide_eq_true (by first | (with_reducible assumption) | assumption);obtain ⟨ahJ,kT,QB,amn,avY,aCo,amo⟩:=Kd.AQ iX.out (by omega);(first | cases QB | (injection QB with ea_ en_ ec_;(first | subst ea_ | (injection ea_ with ea_;subst ea_));subst ec_;clear en_));have amq:=zA amn;have:=geI amq;have aCp:=zA amo;clear amn avY amo;(first | simp only [add_plain] at acd | skip);obtain ⟨avZ,av0⟩:=Kd.yu 0 iX.out ((ER) : Int) p22 q22;replace p22:=eq_true p22;replace q22:=eq_true q22;obtain ⟨aAg,aAh⟩:=Kd.yu 0 iX.out ((ER) : Int) (of_decide_eq_true (by first | (with_reducible assumption) | assumption)) (of_decide_eq_true (by first | (with_reducible assumption) | assumption));have ahK:=Kd.Qz iX.out ((ER) : Int) VQ) | ((with_reducible refine tK (t:=2) (p:=57) rfl ?_);refine rF (t:=2) (p:=57) (v:=?av1) (w1:=(wr.setCell ⟨ahJ,((ER) : Int).toNat,none⟩ (.int .i64 VQ))) ?hg ?ho ?hn ?hr ?_;(case ho=>rfl);(case hg=>rfl);(case hn=>rfl);(case hr=>first | (go_simp;done) | (go_simp;rfl));intro w25 hw;have hg : wr.grownBy w25 (some ahJ):=(by rw [hw];exact ahK.2);have hp_ : Kd.R (Kd.int .i64) 2 w25 w.heap.size (fun _=>True) (.slice (some ⟨ahJ,0,none⟩) xJ.length lD) aml:=(by rw [hw,ae3.out];exact ahK.1);clear ahK;replace iX:=zA (hp_);replace HB:=zA ((by rw [hw];exact mO (HB.out) amq.out : Below w.heap.size w w25));clear hg hw hp_));go_roundg k3;(case measure=>have:=HJ3.out;have:=HK2.out;have:=HK3.out;omega);(case rel=>exact ⟨(aml),(wrap64 (AR + 1)),eS,H',⟨by have:=HJ3.out;have:=HK2.out;have:=HK3.out;omega⟩,⟨uR iX.out⟩,⟨uH HB.out⟩⟩)
end Go.Proofs.Ytilbjbahmilhkaa.Pr
