/- Texts of this session in one: what functions of the program compute, and plain facts of it, under the conditions that each theorem names. -/
import Derived.ArgAppend
import Derived.Below
import Derived.BigQuiet
import Derived.Deep.AppendLies
import Derived.Deep.CutBlock
import Derived.Deep.DeepCutAuto
import Derived.Deep.Draws
import Derived.Deep.LoopGhost
import Derived.Deep.OwnRows
import Derived.Deep.QuietTactic
import Derived.Deep.RegionHeld3
import Derived.KernelRfl
import Derived.Laws.BitsLemmas
import Derived.Laws.BytesArg
import Derived.Laws.IdiomCopy
import Derived.Laws.MakeOwn
import Derived.Laws.OwnMore
import Derived.Laws.Rows
import Derived.Laws.Slices
import Derived.Lib.AppendStr
import Derived.Lib.ConvBytes
import Derived.Maps.AppendAt
import Derived.OrdersHeld
import Derived.OwnWalk
import Derived.RowKit
import Derived.RowKit3
import Derived.Shelf.Abstract
import Derived.Tactics
import Derived.Test.YtnpepkpogohcmaaProg
import Derived.WalkKit
import Derived.WalkSpells
import Derived.WideLaws
import Derived.Test.YtnpepkpogohcmaaKWApart
import Derived.Test.YtnpepkpogohcmaaKWArr
import Derived.Test.YtnpepkpogohcmaaKWAt
import Derived.Test.YtnpepkpogohcmaaKWEqStruct
import Derived.Test.YtnpepkpogohcmaaKWFoot
import Derived.Test.YtnpepkpogohcmaaKWFootNe
import Derived.Test.YtnpepkpogohcmaaKWFour
import Derived.Test.YtnpepkpogohcmaaKWGuard
import Derived.Test.YtnpepkpogohcmaaKWInv
import Derived.Test.YtnpepkpogohcmaaKWInvWords
import Derived.Test.YtnpepkpogohcmaaKWKept
import Derived.Test.YtnpepkpogohcmaaKWLast
import Derived.Test.YtnpepkpogohcmaaKWMore
import Derived.Test.YtnpepkpogohcmaaKWN
import Derived.Test.YtnpepkpogohcmaaKWNEv
import Derived.Test.YtnpepkpogohcmaaKWQPut
import Derived.Test.YtnpepkpogohcmaaKWRepsOne
import Derived.Test.YtnpepkpogohcmaaKWShare
import Derived.Test.YtnpepkpogohcmaaKWTab
import Derived.Test.YtnpepkpogohcmaaKWWords
import Derived.Test.YtnpepkpogohcmaaKWZeros
namespace Go.Proofs.Ytnpepkpogohcmaa.Pr
/- Function values: what a caller is told of a value of function type (its call answers as a plain function says), and one step of a walk that calls it. -/
open Go.RowKit Go.Proofs.YtnpepkpogohcmaaW.PrintWords Go.Proofs.YtnpepkpogohcmaaW.PrintLast Go.Proofs.YtnpepkpogohcmaaW.PrintMore
section
variable {P : Program} {w W : World} {F : Value}

/-- F is a function value that takes nothing and answers b in every later world. -/
def FnB (P : Program) (w : World) (F : Value) (b : Bool) : Prop :=
  ∃ (g : FuncId) (fi ca : Array Value),F = .func (.func g) fi ca∧Enters P g ∧
    ∀ W,Below w.heap.size w W → Calls P g (fi ++ ca) W fun e W'=>e = .returned (.bool b)∧Below W.heap.size W W'
/-- F is a function value that takes a whole number x and answers f x. -/
def FnI (P : Program) (w : World) (F : Value) (f : Int → Option Bool) : Prop :=
  ∃ (g : FuncId) (fi ca : Array Value),F = .func (.func g) fi ca∧Enters P g ∧
    ∀ x r,f x = some r → ∀ W,Below w.heap.size w W → Calls P g (fi ++ #[.int .i64 x] ++ ca) W fun e W'=>e = .returned (.bool r)∧Below W.heap.size W W'
/-- F is a function value that takes a list l of whole numbers and answers f l. -/
def FnL (P : Program) (w : World) (F : Value) (f : List Int → Option Bool) : Prop :=
  ∃ (g : FuncId) (fi ca : Array Value),F = .func (.func g) fi ca∧Enters P g ∧
    ∀ l r A c,f l = some r → ∀ W,Below w.heap.size w W → Kd.C (Kd.int .i64) W A l.length l → l.length ≤ c →
      Calls P g (fi ++ #[.slice A l.length c] ++ ca) W fun e W'=>e = .returned (.bool r)∧Below W.heap.size W W'

theorem FnB.of {g : FuncId} {fn : Func} (hf : P.funcs[g]? = some fn) (hn : (fn.name == "runtime.NumGoroutine") = false) (hb : fn.body.isSome = true := by rfl) {fi ca : Array Value} {b : Bool}
    (h : ∀ W,Below w.heap.size w W → Calls P g (fi ++ ca) W fun e W'=>e = .returned (.bool b)∧Below W.heap.size W W') : FnB P w (.func (.func g) fi ca) b :=
  ⟨g,fi,ca,rfl,fun args W=>DU hf hn hb args W,h⟩
theorem FnI.of {g : FuncId} {fn : Func} (hf : P.funcs[g]? = some fn) (hn : (fn.name == "runtime.NumGoroutine") = false) (hb : fn.body.isSome = true := by rfl) {fi ca : Array Value} {f : Int → Option Bool}
    (h : ∀ x r,f x = some r → ∀ W,Below w.heap.size w W → Calls P g (fi ++ #[.int .i64 x] ++ ca) W fun e W'=>e = .returned (.bool r)∧Below W.heap.size W W') : FnI P w (.func (.func g) fi ca) f :=
  ⟨g,fi,ca,rfl,fun args W=>DU hf hn hb args W,h⟩
theorem FnL.of {g : FuncId} {fn : Func} (hf : P.funcs[g]? = some fn) (hn : (fn.name == "runtime.NumGoroutine") = false) (hb : fn.body.isSome = true := by rfl) {fi ca : Array Value} {f : List Int → Option Bool}
    (h : ∀ l r A c,f l = some r → ∀ W,Below w.heap.size w W → Kd.C (Kd.int .i64) W A l.length l → l.length ≤ c →
      Calls P g (fi ++ #[.slice A l.length c] ++ ca) W fun e W'=>e = .returned (.bool r)∧Below W.heap.size W W') : FnL P w (.func (.func g) fi ca) f :=
  ⟨g,fi,ca,rfl,fun args W=>DU hf hn hb args W,h⟩

theorem FnB.later {F : Value} {b : Bool} (hb : Below w.heap.size w W) (h : FnB P w F b) : FnB P W F b:=by
  obtain ⟨g,fi,ca,e,he,h⟩:=h
  exact ⟨g,fi,ca,e,he,fun W2 h2=>h W2 (hb.trans (h2.mono hb.size))⟩
theorem FnI.later {F : Value} {f : Int → Option Bool} (hb : Below w.heap.size w W) (h : FnI P w F f) : FnI P W F f:=by
  obtain ⟨g,fi,ca,e,he,h⟩:=h
  exact ⟨g,fi,ca,e,he,fun x r hr W2 h2=>h x r hr W2 (hb.trans (h2.mono hb.size))⟩
theorem FnL.later {F : Value} {f : List Int → Option Bool} (hb : Below w.heap.size w W) (h : FnL P w F f) : FnL P W F f:=by
  obtain ⟨g,fi,ca,e,he,h⟩:=h
  exact ⟨g,fi,ca,e,he,fun l r A c hr W2 h2=>h l r A c hr W2 (hb.trans (h2.mono hb.size))⟩
end
/- Short names for what the printed walks spell out: facts of a world hold in each world that comes of it by new blocks and drawn numbers; no condition. -/
open Go Go.RowKit Go.Proofs.YtnpepkpogohcmaaW.PrintWords Go.Proofs.YtnpepkpogohcmaaW.PrintLast Go.Proofs.YtnpepkpogohcmaaW.PrintMore
/-- `w` comes of `w0` by new blocks and drawn numbers alone. -/
class Up (w0 w : World) : Prop where
  up : Below w0.heap.size w0 w
instance Up.refl (w : World) : Up w w:=⟨Below.refl _ _⟩
instance Up.alloc (w0 w : World) (o : Obj) [u : Up w0 w] : Up w0 (w.alloc o):=⟨gJ u.up o⟩
instance Up.drew (w0 w : World) [u : Up w0 w] : Up w0 w.drew:=⟨aZ u.up⟩
instance Up.drewN (w0 w : World) (n : Nat) [u : Up w0 w] : Up w0 (w.drewN n):=⟨bD u.up n⟩
instance Up.setDrewN (w0 w : World) (n : Nat) (a : Addr) (v : Value) [u : Up w0 (w.setCell a v)] : Up w0 ((w.drewN n).setCell a v):=⟨⟨u.up.os,u.up.tape,u.up.output,u.up.size,u.up.block⟩⟩
instance Up.setDrew (w0 w : World) (a : Addr) (v : Value) [u : Up w0 (w.setCell a v)] : Up w0 (w.drew.setCell a v):=⟨⟨u.up.os,u.up.tape,u.up.output,u.up.size,u.up.block⟩⟩
theorem Jd (w : World) (n : Nat) (a : Addr) (v : Value) : (w.drewN n).setCell a v = (w.setCell a v).drewN n:=rfl
/-- The block lies behind the border. -/
class Geq (b g : Nat) : Prop where
  geq : b ≤ g
theorem geI {b g : Nat} (h : aa (b ≤ g)) : Geq b g:=⟨h.out⟩
/-- The same, and cells of own blocks may be set. -/
class UpS (b : Nat) (w0 w : World) : Prop where
  up : ∀ {w1 : World},b = w1.heap.size → Below b w1 w0 → Below b w1 w
instance UpS.refl (b : Nat) (w : World) : UpS b w w:=⟨fun _ h=>h⟩
instance UpS.alloc (b : Nat) (w0 w : World) (o : Obj) [u : UpS b w0 w] : UpS b w0 (w.alloc o):=⟨by rintro w1 rfl h;exact gJ (u.up rfl h) o⟩
instance UpS.drew (b : Nat) (w0 w : World) [u : UpS b w0 w] : UpS b w0 w.drew:=⟨fun e h=>aZ (u.up e h)⟩
instance UpS.drewN (b : Nat) (w0 w : World) (n : Nat) [u : UpS b w0 w] : UpS b w0 (w.drewN n):=⟨fun e h=>bD (u.up e h) n⟩
instance UpS.setCell (b : Nat) (w0 w : World) (g j : Nat) (v : Value) [u : UpS b w0 w] [q : Geq b g] : UpS b w0 (w.setCell ⟨g,j,none⟩ v):=⟨by rintro w1 rfl h;exact lC (u.up rfl h) q.geq⟩
section
variable {α : Type} {d : Kd α} {e : Nat} {w0 w w1 : World} {base : Nat} {ok : Nat → Prop} {v : Value} {xs : List α}
theorem uR (h : d.R e w0 base ok v xs) [u : Up w0 w] : d.R e w base ok v xs:=Kd.pF h u.up
theorem uC {A : Option Addr} {n : Nat} (h : d.C w0 A n xs) [u : Up w0 w] : d.C w A n xs:=Kd.aW h u.up
theorem uB {g : Nat} {o : Obj} (h : w0.heap[g]? = some o) [u : Up w0 w] : w.heap[g]? = some o:=dD h u.up
theorem uH (h : Below w1.heap.size w1 w0) [u : UpS w1.heap.size w0 w] : Below w1.heap.size w1 w:=u.up rfl h
theorem zA {p : Prop} (h : p) : aa p:=aa.mk h
theorem xB {g : Nat} {o : Obj} (h : aa (w0.heap[g]? = some o)) (hb : Below w.heap.size w w1) [u : Up w0 w] : aa (w1.heap[g]? = some o):=zA (dD (dD h.out u.up) hb)
theorem xR (h : aa (d.R e w0 base ok v xs)) (hb : Below w.heap.size w w1) [u : Up w0 w] : aa (d.R e w1 base ok v xs):=zA (Kd.pF (Kd.pF h.out u.up) hb)
theorem xH {W : World} (h : aa (Below W.heap.size W w0)) (hb : Below w.heap.size w w1) [u : UpS W.heap.size w0 w] : aa (Below W.heap.size W w1):=zA (cK (u.up rfl h.out) hb)
theorem neL {g : Nat} {o : Obj} (h : aa (w0.heap[g]? = some o)) [u : Up w0 w] : g ≠ w.heap.size:=Nat.ne_of_lt (uU (dD h.out u.up))
theorem neG {g : Nat} {o : Obj} (h : aa (w0.heap[g]? = some o)) [u : Up w0 w] : w.heap.size ≠ g:=Nat.ne_of_gt (uU (dD h.out u.up))
end
section
variable {α β : Type} {f : α → β} {x a : α} {l : List α} {i : Nat}
theorem la : Array.map f l.toArray = (l.map f).toArray:=List.map_toArray
theorem lb : List.map f (a :: l) = f a :: List.map f l:=List.map_cons
theorem lc : List.map f [] = []:=List.map_nil
theorem ld : (l.drop i).length = l.length - i:=List.length_drop
theorem le : (l.take i).length = min i l.length:=List.length_take
theorem ls (l : List α) (i : Nat) (a : α) : l.toArray.setIfInBounds i a = (l.set i a).toArray:=List.setIfInBounds_toArray l i a
theorem lz : (x :: l).set 0 a = a :: l:=List.set_cons_zero
theorem ln : (x :: l).set (i + 1) a = x :: l.set i a:=List.set_cons_succ
end
/-- What copy(xs, ys) makes of xs. -/
def cpy (xs ys : List Int) : List Int:=ys.take (min ys.length xs.length) ++ xs.drop (min ys.length xs.length)
section
variable {P : Program} {ops : Array Oper} {rest : List Oper} {o : Oper} {a : Act} {Q : Exit → Act → World → Prop}
theorem Qe {k : IntKind} {w0 W : World} (base : Nat) (hgd : o.guard = none) (s x : Operand) (t t' e : TypeId)
    (ho : o.op = .call { callee:=.builtin .copy,args:=#[s,x],argTypes:=#[t,t'] }) (ht : P.underlying t = some (.slice e)) (z : Value) (bytes : Nat) (hinfo : (P.info? e).map (fun i=>(i.zero,i.size,i.bytes)) = some (some z,1,bytes))
    (v : Value) (xs ys : List Int) (A : Option Addr) (m c : Nat) (ok : Nat → Prop) (hs : a.eval s = v) (hx : a.eval x = .slice A m c)
    (HO : (Kd.int k).R e W base ok v xs) (HR : (Kd.int k).C W A m ys) (HB : Below base w0 W) (hbase : base ≤ W.heap.size)
    (h : ∀ w1,(Kd.int k).R e w1 base ok v (cpy xs ys) → Below base w0 w1 → W.grownBy w1 v.ownBlock → (v.ownBlock = v.ownBlock ∨ ∃ b,v.ownBlock = some b∧W.heap.size ≤ b) → wpList P ops Q rest (a.put o.dst (.int .i64 ((min m xs.length : Nat) : Int))) w1) :
    wpList P ops Q (o :: rest) a W:=by
  have hm : ys.length = m:=Kd.aiK HR
  subst hm
  have hi : (P.info? e).map (·.size) = some 1:=by
    obtain ⟨i0,hi,hz⟩:=Option.map_eq_some_iff.1 hinfo
    simp only [Prod.mk.injEq] at hz
    rw [hi,Option.map_some,hz.2.1]
  exact Kd.aex (h1:=fun _=>rfl) (0 : Int) base hgd s x t t' e ho ht hi v xs ys A ys.length c ok hs hx HO HR HB hbase (fun w1 h1 h2 h3=>h w1 h1 h2 h3 (.inl rfl))
end
attribute [local go_sem] tN tO wJ wK qL qM tQ tT   -- for this text's walks alone
set_option linter.unusedVariables false
set_option linter.unusedSimpArgs false
def amT : Option Int → Value
  | none => .nilIface
  | some c => .iface 0 (.int .i64 c)
theorem gY : amT none = .nilIface := rfl
theorem ib (c : Int) : amT (some c) = .iface 0 (.int .i64 c) := rfl

theorem lh : (Try.prog.info? 2).map (fun i => (i.zero, i.size, i.bytes)) = some (some (.int .i64 0), 1, 8) := by kernel_rfl
theorem axR : (Try.prog.info? 9).map (fun i => (i.zero, i.size, i.bytes)) = some (some (.string ⟨#[]⟩), 1, 16) := by kernel_rfl
theorem Hy : (Try.prog.info? 24).map (fun i => (i.zero, i.size, i.bytes)) = some (some (.slice none 0 0), 1, 24) := by kernel_rfl
-- the values' own types
def gW (xs : List (List Int)) (i : Int) : (List Int) := xs.getD i.toNat ([] : List Int)
theorem Ao {w : World} {A : Option Addr} {n : Nat} {xs : List (List Int)} (h : Kd.C (Kd.slice 2 (Kd.int .i64)) w A n xs) (i : Int) (h0 : 0 ≤ i) (h1 : i < n) : ∃ ad A0 c0, A = some ad ∧ w.cell? (ad.add i.toNat) = some (.slice A0 (gW xs i).length c0) ∧ (gW xs i).length ≤ c0 ∧ (Kd.int .i64).C w A0 (gW xs i).length (gW xs i) := by
  obtain ⟨ad, c, e, _, hK, hc0⟩ := Kd.acr h ([] : List Int) i h0 h1
  have hc : ∀ j u, c[j]? = some u → w.cell? (ad.add (i.toNat * 1 + j)) = some u := hc0
  obtain ⟨A0, c0, rfl, l0, g0⟩ := hK
  exact ⟨ad, A0, c0, e, by have hq := hc 0 _ rfl; rwa [Nat.mul_one, Nat.add_zero] at hq, l0, g0⟩

def Sq (xs : List (List (List Int))) (i : Int) : (List (List Int)) := xs.getD i.toNat ([] : List (List Int))
theorem axS {w : World} {A : Option Addr} {n : Nat} {xs : List (List (List Int))} (h : Kd.C (Kd.slice 24 (Kd.slice 2 (Kd.int .i64))) w A n xs) (i : Int) (h0 : 0 ≤ i) (h1 : i < n) : ∃ ad A0 c0, A = some ad ∧ w.cell? (ad.add i.toNat) = some (.slice A0 (Sq xs i).length c0) ∧ (Sq xs i).length ≤ c0 ∧ (Kd.slice 2 (Kd.int .i64)).C w A0 (Sq xs i).length (Sq xs i) := by
  obtain ⟨ad, c, e, _, hK, hc0⟩ := Kd.acr h ([] : List (List Int)) i h0 h1
  have hc : ∀ j u, c[j]? = some u → w.cell? (ad.add (i.toNat * 1 + j)) = some u := hc0
  obtain ⟨A0, c0, rfl, l0, g0⟩ := hK
  exact ⟨ad, A0, c0, e, by have hq := hc 0 _ rfl; rwa [Nat.mul_one, Nat.add_zero] at hq, l0, g0⟩
/- slices.Clone at []int64: a new row with the same numbers (nil stays nil). -/
def oz.f (l : List Int) : Option (List Int):=if l.length < 17592186044416 then some l else none

set_option maxHeartbeats 8000000 in
set_option maxRecDepth 100000 in
theorem oz.calls (A0 : Option Addr) (c0 : Nat) (l0 : List Int) (r : List Int) (w : World) (hr0 : Kd.C (Kd.int .i64) w A0 l0.length l0) (hc0 : l0.length ≤ c0) (h : oz.f l0 = some r) :
    Calls Try.prog 78 #[.slice A0 l0.length c0] w fun e w'=>∃ v0_ : Value,e = .returned (v0_)∧Kd.R (Kd.int .i64) 2 w' w.heap.size (fun _=>True) v0_ r∧Below w.heap.size w w':=by
  have hnil : ∀ (W : World) (a : Option Addr) (n c : Nat),(Go.binOp .eql 24 (.slice a n c) (.slice none 0 0)).run Try.prog W = .ok (.bool a.isNone) W:=fun W a n c=>Lib.run_eql_slice_nil W 24 2 a n c 0 0 Try.underlying24
  unfold oz.f at h
  split at h
  case isFalse=>cases h
  rename_i c2
  obtain rfl:=Option.some.inj h
  clear h
  have HR0:=aa.mk hr0
  have HC0:=aa.mk hc0
  clear hr0 hc0
  have HB:=aa.mk (Below.refl w.heap.size w)
  have ag5:=aa.mk c2
  clear c2
  cases A0 with
  | none =>
    have hl : l0 = []:=by
      rcases l0 with _ | ⟨x,l⟩
      · rfl
      · obtain ⟨ad,e,_⟩:=Kd.ic HR0.out 0 (by omega) (by simp only [List.length_cons];omega)
        cases e
    subst hl
    go_enter Try.func78,Try.ntmps78
    go_wp2
    go_ret
    exact ⟨_,rfl,Kd.nE _ _ _ _ _,HB.out⟩
  | some ad0 =>
    obtain ⟨rZ,adG⟩ : ∃ y_ : List Int,y_ = (([] : List Int)):=⟨_,rfl⟩
    have II:=aa.mk adG
    clear adG
    obtain ⟨kY,adH⟩ : ∃ y_ : List Int,y_ = (rZ ++ l0):=⟨_,rfl⟩
    have Ob:=aa.mk adH
    clear adH
    go_enter Try.func78,Try.ntmps78
    go_wp2_with (first | ((with_reducible refine aT (N:=5) rfl ?_);refine Kd.mX (Kd.int .i64) _ 2 ?hg (N:=5) ?hd (xs:=([] : List Int)) (inner:=[]) (ok:=fun _=>True) (okp:=fun _=>True) ?hr ?hp (fun _ hk=>hk) trivial (Below.refl _ _) (Nat.le_refl _) (by simp) ?_;(case hd=>rfl);(case hg=>rfl);(case hr=>first | (go_simp;done) | (go_simp;rfl));(case hp=>exact (cB.none _ _));intro amU w3 ho4 hb hg_ hnew_;clear hg_ hnew_;(first | rw [← II.out] at ho4 | (simp only [Int.reduceToNat] at ho4;rw [← II.out] at ho4));have n0_:=aa.mk (Kd.aX ho4 (af (by repeat (first | (with_reducible first | exact HB.out | apply gJ | apply bD | apply aZ) | exact HB.out))));have n1_:=aa.mk (cK (by repeat (first | (with_reducible first | exact HB.out | apply gJ | apply bD | apply aZ) | exact HB.out)) hb);clear HB;have lL:=n0_;have HB:=n1_;clear n0_ n1_;clear hb ho4) | ((with_reducible refine fo (b:=.append) (xs:=#[.tmp 5,.tmp 6]) rfl ?_);at_builtin;refine Kd.vM (Kd.int .i64) (w0:=w) w.heap.size rfl (.tmp 5) (.tmp 6) 24 2 (.int .i64 0) 8 rfl Try.underlying24 lh rfl (by decide) (by omega) amU rZ l0 _ _ _ (fun _=>True) (fun _=>False) rfl rfl ?aO ?aR (fun _ _ h=>h) (fun _ h=>h.elim) ?aF ?aB ?aS ?aL ?_;(case aR=>repeat (first | exact (Kd.aW HR0.out HB.out) | (with_reducible refine Kd.dU ?_ _) | (with_reducible refine Kd.dV ?_ _) | (with_reducible refine Kd.fK ?_)));(case aB=>exact (by repeat (first | (with_reducible first | exact HB.out | apply gJ | apply bD | apply aZ) | exact HB.out)));(case aF=>exact (fun _ _=>trivial));(case aO=>exact (by (with_reducible repeat (first | apply Kd.vL | apply Kd.uh | apply Kd.iV));exact lL.out));(case aS=>exact (af (by repeat (first | (with_reducible first | exact HB.out | apply gJ | apply bD | apply aZ) | exact HB.out))));(case aL=>have:=ag5.out;have e:=II.out;rw [e];simp;omega);intro auR w5 ho hb hg hat;rw [← Ob.out] at ho;have n0_:=aa.mk (hb);have n1_:=aa.mk (ho);clear HB;clear lL;have HB:=n0_;have ma:=n1_;clear n0_ n1_;clear ho hb hg hat))
    go_ret
    have e : l0 = kY:=by rw [Ob.out,II.out];rfl
    rw [e]
    exact ⟨_,rfl,by (with_reducible repeat (first | apply Kd.vL | apply Kd.uh | apply Kd.iV));exact ma.out,by repeat (first | (with_reducible first | exact HB.out | apply gJ | apply bD | apply aZ) | exact HB.out)⟩
/- An element of a row of rows that is the call's own is the call's own; no condition. -/
theorem ag6 {v : Value} {n : Nat} (h : ∃ b,v.ownBlock = some b∧n ≤ b) : ∀ k,v.ownBlock = some k → n ≤ k:=fun k e=>by
  obtain ⟨b,h1,h2⟩:=h
  rw [h1] at e
  cases e
  exact h2
theorem abF {α : Type} {d : Kd α} {e base : Nat} {ok : Nat → Prop} {W : World} {A : Option Addr} {m c : Nat} {ys : List α} (h : d.R e W base ok (.slice A m c) ys) : l9 (d.M W base ok) d.sz W A m ys:=by
  obtain ⟨A',c',hv,_,hr⟩:=h.2.reads
  cases hv
  exact l9.uf hr (Below.refl _ _) (fun _ _ hp=>d.M_mono (fun k hk=>hk.1) hp)
theorem qK {α : Type} {d : Kd α} {e base : Nat} {ok : Nat → Prop} {W w1 : World} {u v v1 : Value} {xs : List α} (h : d.R e W base (fun k=>ok k∧some k ≠ v.ownBlock) u xs) (hg : W.grownBy w1 v.ownBlock) (hat : v1.ownBlock = v.ownBlock ∨ ∃ b,v1.ownBlock = some b∧W.heap.size ≤ b) : d.R e w1 base (fun k=>ok k∧some k ≠ v1.ownBlock) u xs:=by
  refine Kd.ah (Kd.El (Kd.pE h) (fun k hk hlt=>hg.block k hlt hk.1.2)) (fun k hk=>⟨hk.1.1,?_⟩)
  rcases hat with hat | ⟨b,hb,hle⟩
  · rw [hat];exact hk.1.2
  · rw [hb]
    intro e_
    cases e_
    have:=hk.2.2.1
    omega
/- Short steps of a walk through a region whose order is drawn (each stands for a row that the print spells out); no condition. -/
/-- The lowest n bits of m. -/
def bq : Nat → Nat → List Bool
  | 0,_=>[]
  | n + 1,m=>(m % 2 == 1) :: bq n (m / 2)
def bl (n m : Nat) : Array Bool:=⟨bq n m⟩
section
variable {P : Program} {ops : Array Oper} {Q : Exit → Act → World → Prop} {S : World → Prop} {ds : List Nat} {T : Bool × List (List Nat × List Nat)} {B : List Nat} {fuel : Nat} {l : Array Bool} {a a' : Act} {w : World} {oi : Oper} {v : Value}
theorem pu_ (i : Nat) (N : Tmp) (l' : Array Bool) (HT : aa (mf .any ops = T)) (h : cO P .any ops Q S ds fuel l' a' w)
    (hi : ops[i]? = some oi:=by rfl) (hN : oi.dst = some N:=by rfl) (hc : abo T l.toList l'.toList i = true:=by kernel_rfl)
    (hQ : ∀ c a w,Q (.panic c) (a.put oi.dst v) w → Q (.panic c) a w:=by exact fun _ _ _ h=>h)
    (hy : Yields P ops oi v a:=by exact Or.inl ⟨by rfl,by intro w';go_simp;with_reducible rfl⟩)
    (ha : a.put (some N) v = a':=by (simp only [Act.put,ls,lz,ln,jW,nH];rfl)) : cO P .any ops Q S ds (fuel + 1) l a w :=
  NJ l' hi hN (XB HT.out hc) hQ hy ha h
theorem un_ (i : Nat) (N : Tmp) (l' : Array Bool) (HT : aa (mf .any ops = T)) (h : cO P .any ops Q S ds fuel l' a' w)
    (hi : ops[i]? = some oi:=by rfl) (hN : oi.dst = some N:=by rfl) (hc : abo T l.toList l'.toList i = true:=by kernel_rfl)
    (hQ : ∀ c a w,Q (.panic c) (a.put oi.dst undef) w → Q (.panic c) a w:=by exact fun _ _ _ h=>h)
    (hy : Yields P ops oi undef a:=by exact Or.inr ⟨by rfl,rfl⟩)
    (ha : a.put (some N) undef = a':=by (simp only [Act.put,ls,lz,ln,jW,nH];rfl)) : cO P .any ops Q S ds (fuel + 1) l a w :=
  NJ l' hi hN (XB HT.out hc) hQ hy ha h
theorem ta_ (i : Nat) (N : Tmp) (l' : Array Bool) (HT : aa (mf .any ops = T)) (HW : aa (jP T.2 B = true)) (hS : S w) (h : cO P .any ops Q S ds fuel l' a' w)
    (hi : ops[i]? = some oi:=by rfl) (hN : oi.dst = some N:=by rfl) (hc : XD T B ds l.toList l'.toList i = true:=by kernel_rfl)
    (hQ : ∀ c a w,Q (.panic c) (a.put oi.dst v) w → Q (.panic c) a w:=by exact fun _ _ _ h=>h)
    (hy : YieldsIf P ops S oi v a:=by exact Or.inl ⟨by rfl,by intro w' hs;go_simp;with_reducible rfl⟩)
    (ha : a.put (some N) v = a':=by (simp only [Act.put,ls,lz,ln,jW,nH];rfl)) : cO P .any ops Q S ds (fuel + 1) l a w :=
  E5 l' hi hN (Ig HT.out HW.out hc) hQ hy hS ha h
theorem on_ (i : Nat) (N : Option Tmp) (l' : Array Bool) (HT : aa (mf .any ops = T))
    (h : ∀ K : Act → World → Prop,Shut (∀ a' w',S w' → (S w' → cO P .any ops Q S ds fuel l' a' w') → K a' w') → if Region.wanted oi (yielded ops a.tmps) = true then Oper.wp P oi a w K Q else K (a.put N undef) w)
    (hi : ops[i]? = some oi:=by rfl) (hN : oi.dst = N:=by rfl) (hc : (xL T.2 l.toList == [i] && l.toList.set i true == l'.toList) = true:=by kernel_rfl) (hd : i ∉ ds:=by decide) : cO P .any ops Q S ds (fuel + 1) l a w :=
  U6 l' hi hN (wF HT.out hc) hd h
theorem no_ {a0 : Act} (N : Tmp) (h : cO P .any ops Q S ds fuel l a' w) (ha : a0.put (some N) v = a':=by (simp only [Act.put,ls,lz,ln,jW,nH];rfl)) : cO P .any ops Q S ds fuel l (a0.put (some N) v) w:=qj ha h
end
/- One more short step: what is read at the world where it comes up; no condition. -/
section
variable {P : Program} {ops : Array Oper} {Q : Exit → Act → World → Prop} {S : World → Prop} {ds : List Nat} {T : Bool × List (List Nat × List Nat)} {fuel : Nat} {l : Array Bool} {a a' : Act} {w : World} {oi : Oper} {v : Value}
theorem lo_ (i : Nat) (N : Tmp) (l' : Array Bool) (HT : aa (mf .any ops = T)) (hS : S w) (h : cO P .any ops Q S ds fuel l' a' w)
    (hi : ops[i]? = some oi:=by rfl) (hN : oi.dst = some N:=by rfl) (hc : (xL T.2 l.toList == [i] && l.toList.set i true == l'.toList) = true:=by kernel_rfl) (hd : i ∉ ds:=by decide)
    (hw : Region.wanted oi (yielded ops a.tmps) = true:=by rfl) (hrun : (execOp a.eval oi).run P w = .ok (.value v) w:=by (go_simp;with_reducible rfl))
    (ha : a.put (some N) v = a':=by (simp only [Act.put,ls,lz,ln,jW,nH];rfl)) : cO P .any ops Q S ds (fuel + 1) l a w:=by
  subst ha
  exact U6 l' hi hN (wF HT.out hc) hd (fun K hK=>Hw hw hN hrun (hK.out _ _ hS (fun _=>h)))
end
instance Up.aio (w0 w : World) (n : Nat) (a b : Addr) (v u : Value) [q : Up w0 ((w.setCell a v).setCell b u)] : Up w0 (((w.drewN n).setCell a v).setCell b u):=⟨⟨q.up.os,q.up.tape,q.up.output,q.up.size,q.up.block⟩⟩
instance Up.aip (w0 w : World) (n : Nat) (a b c : Addr) (v u x : Value) [q : Up w0 (((w.setCell a v).setCell b u).setCell c x)] : Up w0 ((((w.drewN n).setCell a v).setCell b u).setCell c x):=⟨⟨q.up.os,q.up.tape,q.up.output,q.up.size,q.up.block⟩⟩
/- More short forms of what the printed walks spell out; no condition. -/
/-- The block k is not the row v's own. -/
abbrev ax (k : Nat) (v : Value) : Prop:=some k ≠ v.ownBlock
theorem bc {w : World} {g : Nat} {t : TypeId} {cs : Array Value} (h : aa (w.heap[g]? = some (.cells cs t (0,0)))) (i : Nat) {v : Value} (hv : cs[i]? = some v:=by rfl) : w.cell? ⟨g,i,none⟩ = some v:=(dH h.out i).trans hv
theorem bcu {w0 w : World} {g : Nat} {t : TypeId} {cs : Array Value} (h : aa (w0.heap[g]? = some (.cells cs t (0,0)))) (i : Nat) {v : Value} [u : Up w0 w] (hv : cs[i]? = some v:=by rfl) : w.cell? ⟨g,i,none⟩ = some v:=(dH (uB h.out) i).trans hv
theorem bf {w : World} {g : Nat} {t : TypeId} {cs : Array Value} (h : aa (w.heap[g]? = some (.cells cs t (0,0)))) (i : Nat) : w.frozen? ⟨g,i,none⟩ = false:=kH h.out i
theorem gq {b w w0 : World} {g : Nat} (HB : aa (Below b.heap.size b w0)) (hg : g = w.heap.size) [u : UpS b.heap.size w0 w] : aa (b.heap.size ≤ g):=⟨by rw [hg];exact af (u.up rfl HB.out)⟩
theorem hc {b w : World} {p : Addr} {v : Value} (HB : aa (Below b.heap.size b w)) (h : b.cell? p = some v) : w.cell? p = some v:=(HB.out.cell (World.block_lt_of_cell? b p h)).trans h
theorem hcu {b w0 w : World} {p : Addr} {v : Value} (HB : aa (Below b.heap.size b w0)) (h : b.cell? p = some v) [u : UpS b.heap.size w0 w] : w.cell? p = some v:=((u.up rfl HB.out).cell (World.block_lt_of_cell? b p h)).trans h
section
variable {P : Program} {ops : Array Oper} {Q : Exit → Act → World → Prop} {rest : List Oper} {oi : Oper} {a : Act} {w : World} {f : FuncId} {fn : Func} {az : Array Operand} {ts : Array TypeId}
theorem gL (N : Option Tmp) (hf : P.funcs[f]? = some fn) (args : Array Value) (h : Calls P f args w fun e w'=>∃ v,e = .returned v∧wpList P ops Q rest (a.put N v) w')
    (hd : oi.dst = N := by rfl) (hg : oi.guard = none := by rfl) (hname : (fn.name == "runtime.NumGoroutine") = false := by kernel_rfl) (hb : fn.body.isSome = true := by rfl)
    (hop : oi.op = .call { callee:=.value (.func f),args:=az,argTypes:=ts }:=by rfl) (hargs : az.map a.eval = args:=by ((try simp only [la,lb,lc]);first | done | rfl | (simp only [ld,le];rfl))) : wpList P ops Q (oi :: rest) a w :=
  zk N hd hg hf hname hb args hop hargs h
theorem bx (N : Tmp) (cs : Array Value) (t : TypeId) (h : ∀ g,g = w.heap.size → ∀ w1,w1.heap[g]? = some (.cells cs t (0,0)) → Below w.heap.size w w1 → wpList P ops Q rest (a.put oi.dst (.pointer (some ⟨g,0,none⟩))) w1)
    (hd : oi.dst = some N:=by rfl) (hg : oi.guard = none:=by rfl)
    (hr : (execOp a.eval oi).run P w = .ok (.value (.pointer (some ⟨w.heap.size,0,none⟩))) (w.alloc (.cells cs t (0,0))):=by first | (go_simp;done) | (go_simp;rfl)) : wpList P ops Q (oi :: rest) a w :=
  Js hg hd hr h
theorem gS {N : Option Tmp} {K : Act → World → Prop} (hf : P.funcs[f]? = some fn) (args : Array Value) (h : Calls P f args w fun e w'=>∃ v,e = .returned v∧K (a.put N v) w')
    (hname : (fn.name == "runtime.NumGoroutine") = false := by kernel_rfl) (hb : fn.body.isSome = true := by rfl) (hw : Region.wanted oi (yielded ops a.tmps) = true := by rfl) (hN : oi.dst = N := by rfl)
    (hop : oi.op = .call { callee:=.value (.func f),args:=az,argTypes:=ts }:=by rfl) (hargs : az.map a.eval = args:=by ((try simp only [la,lb,lc]);first | done | rfl | (simp only [ld,le];rfl))) : if Region.wanted oi (yielded ops a.tmps) = true then Oper.wp P oi a w K Q else K (a.put N undef) w :=
  G5 hf hname hb args hw hN hop hargs h
end
/-- One step back: a new block, or drawn numbers. -/
class Up1 (w : outParam World) (w1 : World) : Prop where
  up : Below w.heap.size w w1
instance Up1.alloc (w : World) (o : Obj) : Up1 w (w.alloc o):=⟨gJ (Below.refl _ _) o⟩
instance Up1.drew (w : World) : Up1 w w.drew:=⟨aZ (Below.refl _ _)⟩
instance Up1.drewN (w : World) (n : Nat) : Up1 w (w.drewN n):=⟨bD (Below.refl _ _) n⟩
theorem up1 {w w1 : World} {g : Nat} {o : Obj} [u : Up1 w w1] (h : w.heap[g]? = some o) : w1.heap[g]? = some o:=dD h u.up
section
variable {α : Type} {d : Kd α} {e base g t : Nat} {ok : Nat → Prop} {w : World} {v : Value} {xs : List α} {cells : Array Value}
/-- A row stays where the cells of a block of another type are set. -/
theorem rf2 (h : aa (d.R e w base ok v xs)) (hb : aa (w.heap[g]? = some (.cells cells t (0,0)))) (ht : ∀ q,q ∈ e :: d.E → q ≠ t) (a b : Value) : d.R e ((w.setCell ⟨g,0,none⟩ a).setCell ⟨g,1,none⟩ b) base ok v xs :=
  Kd.ah (Kd.bW (p:=⟨g,1,none⟩) (Kd.bW (p:=⟨g,0,none⟩) (Kd.dE h.out hb.out ht) (fun _ hk=>hk.2) a) (fun _ hk=>hk.2) b) (fun _ hk=>hk.1)
end
/- Short forms of rows that a great law's printed walk tells again and again; no condition. -/
section
variable {α β γ : Type} {d : Kd α} {d0 : Kd β} {d1 : Kd γ} {e e0 e1 base b0 : Nat} {ok ok0 ok1 : Nat → Prop} {W w w1 : World} {u v v0 v1 : Value} {xs : List α} {xs0 : List β} {xs1 : List γ}
theorem td2 (hu : d.R e W base ok u xs) (hb : Below W.heap.size W w1) (h0 : d0.R e0 w1 W.heap.size ok0 v0 xs0) (h1 : d1.R e1 w1 W.heap.size ok1 v1 xs1) : aa (d.R e w1 base (fun k=>(ok k∧some k ≠ v0.ownBlock)∧some k ≠ v1.ownBlock) u xs) :=
  zA (Kd.ah (Kd.Et (Kd.Et (Kd.akx hu hb) (Kd.aG h0)) (Kd.aG h1)) (fun _ h=>h.1))
theorem nw (h : d.R e w1 W.heap.size ok v xs) (h' : d0.R e0 W b0 ok0 u xs0) : d.R e w1 W.heap.size (fun k=>ok k∧some k ≠ u.ownBlock) v xs:=Kd.aew h (Kd.ku h')
theorem rc {A : Option Addr} {n c : Nat} (h : d.R e w base ok (.slice A n c) xs) : d.C w A xs.length xs:=(Kd.aM h).2.2
end
set_option maxHeartbeats 8000000
set_option maxRecDepth 100000
/-! ### eP: function 38 -/
def eP.f (l0 : List Int) : Option (Int):=some (l0.length : Int)
theorem eP.calls (A0 : Option Addr) (c0 : Nat) (l0 : List Int) (r : Int) (w : World) (hr0 : Kd.C (Kd.int .i64) w A0 l0.length l0) (hc0 : l0.length ≤ c0) (H : eP.f l0 = some r) :
  Calls Try.prog 38 #[.slice A0 l0.length c0] w fun e w'=>e = .returned (.int .i64 r)∧bA w w':=by
 have HR0:=zA hr0;have HC0:=zA hc0;clear hr0 hc0;unfold eP.f at H;obtain rfl:=Option.some.inj H;go_enter Try.func38,Try.ntmps38;go_wp2;go_ret;exact ⟨by first | rfl | (simp;done) | (simp [*];done),by repeat (first | exact bA.refl _ | apply bA.step)⟩
/-! ### uk: function 5 -/
def uk.f (l0 : List Int) : Option (Bool):=some (decide ((l0.length : Int) > 4096))
theorem uk.calls (A0 : Option Addr) (c0 : Nat) (l0 : List Int) (r : Bool) (w : World) (hr0 : Kd.C (Kd.int .u8) w A0 l0.length l0) (hc0 : l0.length ≤ c0) (H : uk.f l0 = some r) :
  Calls Try.prog 5 #[.slice A0 l0.length c0] w fun e w'=>e = .returned (.bool r)∧bA w w':=by
 have HR0:=zA hr0;have HC0:=zA hc0;clear hr0 hc0;unfold uk.f at H;obtain rfl:=Option.some.inj H;go_enter Try.func5,Try.ntmps5;go_wp2;go_ret;exact ⟨by first | rfl | (simp;done) | (simp [*];done),by repeat (first | exact bA.refl _ | apply bA.step)⟩
/- Steps that stand in for tactics told again and again: the proofs are found where the lemma is called. -/
theorem eX {α : Type} {a b : α} (h : a = b:=by first | rfl | (simp [gY,ib] <;> rfl) | (simp [*,gY,ib] <;> rfl)) : a = b:=h
theorem eS {α : Type} {a b : α} (h : a = b:=by first | rfl | (simp;done) | (simp [*];done)) : a = b:=h
section
variable {α : Type} {d : Kd α} {e base : Nat} {ok : Nat → Prop} {w W : World} {v : Value} {xs : List α}
theorem nR (hw : W = w) (h : d.R e w base ok v xs) : aa (d.R e W base ok v xs):=by subst hw;exact zA h
theorem uV {w0 : World} (h : Kd.V d e w0 base ok v xs) [u : Up w0 w] : Kd.V d e w base ok v xs:=Kd.jw h u.up
theorem uN {w0 : World} (h : Kd.N d e w0 base ok v xs) [u : Up w0 w] : Kd.N d e w base ok v xs:=Kd.kv h u.up
theorem nB {b : World} (hw : W = w) (h : Below b.heap.size b w) : aa (Below b.heap.size b W):=by subst hw;exact zA h
end
/-! ### eO: function 40 -/
def eO.f (aH : Int) (aD : List Int) : Option (Int):=some aH
theorem eO.calls (aH : Int) (bM : Option Addr) (bJ : Nat) (aD : List Int) (r : Int) (w : World) (hr0_1 : Kd.C (Kd.int .i64) w bM aD.length aD) (jE : aD.length ≤ bJ) (H : eO.f aH aD = some r) :
  Calls Try.prog 40 #[.agg #[.int .i64 aH,.slice bM aD.length bJ]] w fun e w'=>e = .returned (.int .i64 r)∧Below w.heap.size w w':=by
 have uD:=Try.underlying26;have fP:=zA hr0_1;have gG:=zA jE;clear hr0_1 jE;have HB:=zA (Below.refl w.heap.size w);unfold eO.f at H;obtain rfl:=Option.some.inj H;go_enter Try.func40,Try.ntmps40;go_wp2_with (first | ((with_reducible refine aT (N:=1) rfl ?_);refine bx 1 #[.int .i64 aH,.slice bM aD.length bJ] 26 ?_;intro axT hg w2 hbox hb;have Sr:=zA (hbox);have amV:=gq HB hg;have:=geI amV;have amW:=gq HB hg;replace HB:=xH HB hb;have:=geI amW;clear hb hbox hg;have ag7:=bc Sr 0;have auS:=bc Sr 1;have ag8:=bf Sr 0;have auT:=bf Sr 1));go_ret;exact ⟨eX,uH HB.out⟩
/- Steps that take a told equation apart: a condition that must hold, one of two ways, an answer bound; no condition. -/
section
variable {α β : Type} {P : Prop} [Decidable P] {x y : Option α} {r : α}
theorem gI (h : (if P then x else y) = some r) : (¬ P∧y = some r) ∨ (P∧x = some r):=by
  by_cases c : P
  · exact .inr ⟨c,by rwa [if_pos c] at h⟩
  · exact .inl ⟨c,by rwa [if_neg c] at h⟩
theorem gN (h : (if P then x else none) = some r) : P∧x = some r:=by
  rcases gI h with ⟨_,h⟩ | h
  · cases h
  · exact h
theorem gD (h : (if P then x else none) = some r) : decide P = true∧x = some r:=⟨decide_eq_true (gN h).1,(gN h).2⟩
theorem gZ (h : (if P then x else none) = some r) : aa P∧x = some r:=⟨⟨(gN h).1⟩,(gN h).2⟩
theorem gF (h : (if P then x else y) = some r) : (decide P = false∧y = some r) ∨ (decide P = true∧x = some r) :=
  (gI h).imp (fun h=>⟨decide_eq_false h.1,h.2⟩) (fun h=>⟨decide_eq_true h.1,h.2⟩)
theorem gE {γ : Type} [BEq γ] [LawfulBEq γ] {a b : γ} [Decidable (a = b)] (h : (if a = b then x else y) = some r) : (¬ a = b∧(a == b) = false∧(a != b) = true∧y = some r) ∨ (a = b∧(a == b) = true∧(a != b) = false∧x = some r) :=
  (gI h).imp (fun h=>⟨h.1,beq_eq_false_iff_ne.mpr h.1,bne_iff_ne.mpr h.1,h.2⟩) (fun h=>⟨h.1,beq_iff_eq.mpr h.1,bne_eq_false_iff_eq.mpr h.1,h.2⟩)
theorem gB {t : Bool} (h : (if t = true then x else y) = some r) : (t = true∧x = some r) ∨ (t = false∧y = some r):=by
  cases t
  · exact .inr ⟨rfl,h⟩
  · exact .inl ⟨rfl,h⟩
theorem oD (h : decide P = true:=by first | (with_reducible assumption) | assumption) : P:=of_decide_eq_true h
end
section
variable {α β : Type} {r : α}
theorem bO {x : Option β} {f : β → Option α} (h : x.bind f = some r) : ∃ a,aa (x = some a)∧f a = some r:=by
  obtain ⟨a,h1,h2⟩:=Option.bind_eq_some_iff.mp h
  exact ⟨a,⟨h1⟩,h2⟩
theorem bS {e : β} {f : β → Option α} (h : (some e).bind f = some r) : ∃ y,aa (y = e)∧f y = some r:=⟨e,⟨rfl⟩,h⟩
theorem eY (e : β) : ∃ y,aa (y = e):=⟨e,⟨rfl⟩⟩
end
/-! ### jr: function 101 -/
def jr.f (aH : Int) (aD : List Int) (a1 : Int) : Option (Bool):=if a1 ≥ 0 then ((eP.f aD).bind fun ag9=>(some (decide (a1 ≤ (wrap64 (Int.tdiv (wrap64 (ag9 + 1)) 2)))))) else (some false)
theorem jr.calls (aH : Int) (bM : Option Addr) (bJ : Nat) (aD : List Int) (a1 : Int) (r : Bool) (w : World) (hr0_1 : Kd.C (Kd.int .i64) w bM aD.length aD) (jE : aD.length ≤ bJ) (H : jr.f aH aD a1 = some r) :
  Calls Try.prog 101 #[.agg #[.int .i64 aH,.slice bM aD.length bJ],.int .i64 a1] w fun e w'=>e = .returned (.bool r)∧Below w.heap.size w w':=by
 have uD:=Try.underlying26;have fP:=zA hr0_1;have gG:=zA jE;clear hr0_1 jE;have HB:=zA (Below.refl w.heap.size w);unfold jr.f at H;replace H:=gI H;obtain ⟨c3,H⟩|⟨c3,H⟩:=H
 ·have rH : decide (0 ≤ a1) = false:=decide_eq_false c3;clear c3;obtain rfl:=Option.some.inj H;go_enter Try.func101,Try.ntmps101;go_wp2_with (first | ((with_reducible refine aT (N:=2) rfl ?_);refine bx 2 #[.int .i64 aH,.slice bM aD.length bJ] 26 ?_;intro amX hg w7 hbox hb;have Oc:=zA (hbox);have Yt:=gq HB hg;have:=geI Yt;have Yu:=gq HB hg;replace HB:=xH HB hb;have:=geI Yu;clear hb hbox hg));go_ret;exact ⟨eX,uH HB.out⟩
 have rH : decide (0 ≤ a1) = true:=decide_eq_true c3;clear c3;replace H:=bO H;obtain ⟨ag9,A4,H⟩:=H;obtain rfl:=Option.some.inj H;go_enter Try.func101,Try.ntmps101;go_wp2_with (first | ((with_reducible refine aT (N:=2) rfl ?_);refine bx 2 #[.int .i64 aH,.slice bM aD.length bJ] 26 ?_;intro amX hg w5 hbox hb;have Oc:=zA (hbox);have Yt:=gq HB hg;have:=geI Yt;have Yu:=gq HB hg;replace HB:=xH HB hb;have:=geI Yu;clear hb hbox hg;have Xb:=bc Oc 0;have Xc:=bc Oc 1;have Xd:=bf Oc 0;have Xe:=bf Oc 1) | (go_at_call 38;(with_reducible refine (eP.calls _ _ aD ag9 _ ?side1 ?side2 A4.out).mono ?_);(case side1=>exact uC ((Kd.aW fP.out HB.out)));(case side2=>exact gG.out);rintro e w' ⟨rfl,⟨nd,rfl⟩⟩));go_ret;exact ⟨eX,uH HB.out⟩
/-! ### jv: function 74 -/
def jv.f (a0 : Int) (jy : (Int → Option Bool)) : Option (Bool):=(jy a0).bind fun amY=>(some (!amY))
theorem jv.calls (a0 : Int) (gc1 : Nat) (Yv : Value) (jy : (Int → Option Bool)) (r : Bool) (w : World) (hb1 : w.heap[gc1]? = some (.cells #[Yv] 49 (0,0))) (DV : FnI Try.prog w Yv jy) (H : jv.f a0 jy = some r) :
  Calls Try.prog 74 #[.int .i64 a0,.pointer (some ⟨gc1,0,none⟩)] w fun e w'=>e = .returned (.bool r)∧Below w.heap.size w w':=by
 obtain ⟨Qf,Yw,Yx,rfl,IJ,DV⟩:=DV;have IJ : ∀ (args_ : Array Value) (w_ : World),(callFunc Qf args_).run Try.prog w_ = .ok (.enter Qf args_) w_:=IJ;have Yy:=zA DV;clear DV;have BK1:=zA hb1;clear hb1;have HB:=zA (Below.refl w.heap.size w);unfold jv.f at H;replace H:=bO H;obtain ⟨amY,A3,H⟩:=H;obtain rfl:=Option.some.inj H;have Yc:=bc BK1 0;have Yd:=bf BK1 0;go_enter Try.func74,Try.ntmps74;go_wp2_with (first | (go_at_fn Qf;refine dR (args':=Yw ++ #[.int .i64 a0] ++ Yx) (by simp) ?_;refine (Yy.out a0 _ A3.out _ (uH HB.out)).mono ?_;rintro e w5 ⟨rfl,hb⟩;replace BK1:=xB BK1 hb;replace HB:=xH HB hb;(try clear hb)));go_ret;exact ⟨eX,uH HB.out⟩
/-! ### jH: function 99 -/
def jH.f (l0 : List Int) (jy : (List Int → Option Bool)) : Option (Bool):=(jy l0).bind fun amZ=>(some (!amZ))
theorem jH.calls (A0 : Option Addr) (c0 : Nat) (l0 : List Int) (gc1 : Nat) (Yv : Value) (jy : (List Int → Option Bool)) (r : Bool) (w : World) (hr0 : Kd.C (Kd.int .i64) w A0 l0.length l0) (hc0 : l0.length ≤ c0) (hb1 : w.heap[gc1]? = some (.cells #[Yv] 44 (0,0))) (DV : FnL Try.prog w Yv jy) (H : jH.f l0 jy = some r) :
  Calls Try.prog 99 #[.slice A0 l0.length c0,.pointer (some ⟨gc1,0,none⟩)] w fun e w'=>e = .returned (.bool r)∧Below w.heap.size w w':=by
 have HR0:=zA hr0;have HC0:=zA hc0;clear hr0 hc0;obtain ⟨Qf,Yw,Yx,rfl,IJ,DV⟩:=DV;have IJ : ∀ (args_ : Array Value) (w_ : World),(callFunc Qf args_).run Try.prog w_ = .ok (.enter Qf args_) w_:=IJ;have Yy:=zA DV;clear DV;have BK1:=zA hb1;clear hb1;have HB:=zA (Below.refl w.heap.size w);unfold jH.f at H;replace H:=bO H;obtain ⟨amZ,A3,H⟩:=H;obtain rfl:=Option.some.inj H;have Yc:=bc BK1 0;have Yd:=bf BK1 0;go_enter Try.func99,Try.ntmps99;go_wp2_with (first | (go_at_fn Qf;refine dR (args':=Yw ++ #[.slice A0 l0.length c0] ++ Yx) (by simp) ?_;refine (Yy.out l0 _ _ _ A3.out _ (uH HB.out) (by exact uC HR0.out) (by exact HC0.out)).mono ?_;rintro e w5 ⟨rfl,hb⟩;replace BK1:=xB BK1 hb;replace HB:=xH HB hb;(try clear hb)));go_ret;exact ⟨eX,uH HB.out⟩
/-! ### jY: function 61 -/
def jY.f (l0 : List Int) : Option (Int):=(eP.f l0).bind fun aha=>(some (wrap64 (aha - 1)))
theorem jY.calls (A0 : Option Addr) (c0 : Nat) (l0 : List Int) (r : Int) (w : World) (hr0 : Kd.C (Kd.int .i64) w A0 l0.length l0) (hc0 : l0.length ≤ c0) (H : jY.f l0 = some r) :
  Calls Try.prog 61 #[.slice A0 l0.length c0] w fun e w'=>e = .returned (.int .i64 r)∧bA w w':=by
 have HR0:=zA hr0;have HC0:=zA hc0;clear hr0 hc0;unfold jY.f at H;replace H:=bO H;obtain ⟨aha,A2,H⟩:=H;obtain rfl:=Option.some.inj H;go_enter Try.func61,Try.ntmps61;go_wp2_with (first | ((with_reducible refine ag (f:=38) rfl ?_);refine gL (some 4) Try.func38 #[.slice A0 l0.length c0] ?_;(with_reducible refine (eP.calls _ _ l0 aha _ ?side1 ?side2 A2.out).mono ?_);(case side1=>exact uC HR0.out);(case side2=>exact HC0.out);rintro e w' ⟨rfl,⟨nd,rfl⟩⟩;refine ⟨_,rfl,?_⟩));go_ret;exact ⟨by first | rfl | (simp;done) | (simp [*];done),by repeat (first | exact bA.refl _ | apply bA.step)⟩
/-! ### gK: function 60 -/
def gK.f (wu : List Int) : Option (Bool):=(jY.f wu).bind fun ahb=>(some (decide (ahb < 12)))
theorem gK.calls (gc0 : Nat) (Ld : Option Addr) (Le : Nat) (wu : List Int) (r : Bool) (w : World) (hb0 : w.heap[gc0]? = some (.cells #[.slice Ld wu.length Le] 24 (0,0))) (hr0_0 : Kd.C (Kd.int .i64) w Ld wu.length wu) (NR : wu.length ≤ Le) (H : gK.f wu = some r) :
  Calls Try.prog 60 #[.pointer (some ⟨gc0,0,none⟩)] w fun e w'=>e = .returned (.bool r)∧bA w w':=by
 have X8:=zA hr0_0;have X9:=zA NR;clear hr0_0 NR;have BK0:=zA hb0;clear hb0;unfold gK.f at H;replace H:=bO H;obtain ⟨ahb,A2,H⟩:=H;obtain rfl:=Option.some.inj H;have ag7:=bc BK0 0;have ag8:=bf BK0 0;go_enter Try.func60,Try.ntmps60;go_wp2_with (first | ((with_reducible refine ag (f:=61) rfl ?_);refine gL (some 3) Try.func61 #[.slice Ld wu.length Le] ?_;(with_reducible refine (jY.calls _ _ wu ahb _ ?side1 ?side2 A2.out).mono ?_);(case side1=>exact uC X8.out);(case side2=>exact X9.out);rintro e w' ⟨rfl,⟨nd,rfl⟩⟩;refine ⟨_,rfl,?_⟩));go_ret;exact ⟨by first | rfl | (simp;done) | (simp [*];done),by repeat (first | exact bA.refl _ | apply bA.step)⟩
/-! ### il: function 117 -/
def il.f (l0 : List Int) (jy : Int) : Option (Bool):=if 0 ≤ jy then (if jy < (l0.length : Int) then (some ((rd l0 jy) != 0)) else (none)) else (none)
theorem il.calls (A0 : Option Addr) (c0 : Nat) (l0 : List Int) (gc1 : Nat) (jy : Int) (r : Bool) (w : World) (hr0 : Kd.C (Kd.int .i64) w A0 l0.length l0) (hc0 : l0.length ≤ c0) (hb1 : w.heap[gc1]? = some (.cells #[.int .i64 jy] 3 (0,0))) (H : il.f l0 jy = some r) :
  Calls Try.prog 117 #[.slice A0 l0.length c0,.pointer (some ⟨gc1,0,none⟩)] w fun e w'=>e = .returned (.bool r)∧bA w w':=by
 have HR0:=zA hr0;have HC0:=zA hc0;clear hr0 hc0;have BK1:=zA hb1;clear hb1;unfold il.f at H;replace H:=gD H;obtain ⟨rH,H⟩:=H;replace H:=gD H;obtain ⟨pQ,H⟩:=H;obtain rfl:=Option.some.inj H;have auU:=bc BK1 0;have auV:=bf BK1 0;have ahc : 0 ≤ (jy : Int):=oD;have ahd : jy < (l0.length : Int):=oD;obtain ⟨axU,auW,arR⟩:=Kd.ic HR0.out jy ahc ahd;cases auW;replace ahc:=eq_true ahc;replace ahd:=eq_true ahd;go_enter Try.func117,Try.ntmps117;go_wp2;go_ret;exact ⟨by first | rfl | (simp;done) | (simp [*];done),by repeat (first | exact bA.refl _ | apply bA.step)⟩
/-! ### fG: function 41 -/
def fG.f (a0 : Int) (a1 : Int) : Option (Bool):=if a1 ≥ 0 then (some (decide (a1 < a0))) else (some false)
theorem fG.calls (a0 : Int) (a1 : Int) (r : Bool) (w : World) (H : fG.f a0 a1 = some r) :
  Calls Try.prog 41 #[.int .i64 a0,.int .i64 a1] w fun e w'=>e = .returned (.bool r)∧bA w w':=by
 unfold fG.f at H;replace H:=gI H;obtain ⟨c3,H⟩|⟨c3,H⟩:=H
 ·have rH : decide (0 ≤ a1) = false:=decide_eq_false c3;clear c3;obtain rfl:=Option.some.inj H;go_enter Try.func41,Try.ntmps41;go_wp2;go_ret;exact ⟨by first | rfl | (simp;done) | (simp [*];done),by repeat (first | exact bA.refl _ | apply bA.step)⟩
 have rH : decide (0 ≤ a1) = true:=decide_eq_true c3;clear c3;obtain rfl:=Option.some.inj H;go_enter Try.func41,Try.ntmps41;go_wp2;go_ret;exact ⟨by first | rfl | (simp;done) | (simp [*];done),by repeat (first | exact bA.refl _ | apply bA.step)⟩
/-! ### fq: function 72 -/
def fq.f (a0 : Int) (a1 : Int) : Option (Int):=if a0 = 0 then (none) else (some (Int.tmod (wrap64 ((Int.tmod a1 a0) + a0)) a0))
theorem fq.calls (a0 : Int) (a1 : Int) (r : Int) (w : World) (H : fq.f a0 a1 = some r) :
  Calls Try.prog 72 #[.int .i64 a0,.int .i64 a1] w fun e w'=>e = .returned (.int .i64 r)∧bA w w':=by
 unfold fq.f at H;replace H:=gI H;obtain ⟨c3,H⟩|⟨c3,H⟩:=H
 ·have rH : (a0 == 0) = false:=beq_eq_false_iff_ne.mpr c3;have FD : (a0 != 0) = true:=bne_iff_ne.mpr c3;obtain rfl:=Option.some.inj H;go_enter Try.func72,Try.ntmps72;go_wp2;go_ret;exact ⟨by first | rfl | (simp;done) | (simp [*];done),by repeat (first | exact bA.refl _ | apply bA.step)⟩
 exact absurd H (by simp)
/-! ### bL: function 33 -/
def bL.l0 : Nat → Int → List Int → Int → Int → Int → List Int → Option (Int)
 | 0,_,_,_,_,_,_=>none
 | k + 1,x5,x8,x9,x10,Su,Gm=>if x10 < x9 then (if 0 ≤ x10 then (if x10 < (x8.length : Int) then ((eO.f Su Gm).bind fun Yz=>(if x10 < (Gm.length : Int) then ((fq.f Yz (wrap64 (x5 + (wrap64 ((rd x8 x10) * (rd Gm x10)))))).bind fun abG=>(bL.l0 k abG x8 x9 (wrap64 (x10 + 1)) Su Gm)) else (none))) else (none)) else (none)) else (some x5)
def bL.f (k : Nat) (aH : Int) (aD : List Int) (l1 : List Int) : Option (Int):=bL.l0 k 0 l1 (l1.length : Int) 0 aH aD
def bL.T5 : Bool × List (List Nat × List Nat):=(true,[([],[]),([0],[0]),([],[]),([],[]),([],[]),([4],[4]),([],[]),([5,6],[5,6]),([7],[7]),([3,8],[3,8]),([2,9],[2,9]),([1,10,1],[1,10]),([11,11,0,1,2,3,4,5,6,7,8,9,10,11],[2,11])])
def bL.B5 : List Nat:=[0,1,0,0,0,16,0,112,240,504,1020,2047,4095]
theorem bL.Ku : mf .any (opsOf Try.f33 5) = bL.T5:=by kernel_rfl
theorem bL.CV : jP bL.T5.2 bL.B5 = true:=by kernel_rfl
theorem bL.calls (k : Nat) (aH : Int) (bM : Option Addr) (bJ : Nat) (aD : List Int) (A1 : Option Addr) (c1 : Nat) (l1 : List Int) (r : Int) (w : World) (hr0_1 : Kd.C (Kd.int .i64) w bM aD.length aD) (jE : aD.length ≤ bJ) (hr1 : Kd.C (Kd.int .i64) w A1 l1.length l1) (hc1 : l1.length ≤ c1) (H : bL.f k aH aD l1 = some r) :
  Calls Try.prog 33 #[.agg #[.int .i64 aH,.slice bM aD.length bJ],.slice A1 l1.length c1] w fun e w'=>e = .returned (.int .i64 r)∧Below w.heap.size w w':=by
 have uD:=Try.underlying26;have fP:=zA hr0_1;have gG:=zA jE;clear hr0_1 jE;have HR1:=zA hr1;have HC1:=zA hc1;clear hr1 hc1;have HB:=zA (Below.refl w.heap.size w);unfold bL.f at H;have H':=zA H;clear H;go_enter Try.func33,Try.ntmps33;go_wp2_with (first | ((with_reducible refine aT (N:=2) rfl ?_);refine bx 2 #[.int .i64 aH,.slice bM aD.length bJ] 26 ?_;intro YA hg w3 hbox hb;have yo:=zA (hbox);have am0:=gq HB hg;have:=geI am0;have am1:=gq HB hg;replace HB:=xH HB hb;have:=geI am1;clear hb hbox hg));go_loopg [5,10] k (fun kq v5 v10 w'=>∃ (gV : Int) (gp : Int),v5 = .int .i64 gV∧v10 = .int .i64 gp∧aa (bL.l0 kq gV l1 (l1.length : Int) gp aH aD = some r)∧aa (kq ≤ k)∧aa (w'.heap[YA]? = some (.cells #[.int .i64 aH,(.slice bM aD.length bJ)] 26 (0,0)))∧aa (Below w.heap.size w w'));(case atStart=>exact ⟨(0),(0),eS,eS,H',⟨Nat.le_refl _⟩,⟨uB yo.out⟩,⟨uH HB.out⟩⟩)
 case round =>
  clear H';(try clear c1);(try clear p2);(try clear c3);obtain ⟨gV,gp,rfl,rfl,HA,HK1,yo,HB⟩:=hrel
  cases gk with
  | zero=>exact absurd HA.out (by simp [bL.l0])
  | succ k1 =>
   have H:=HA.out;clear HA;simp only [bL.l0] at H;replace H:=gF H;obtain ⟨pQ,H⟩|⟨pQ,H⟩:=H
   ·obtain rfl:=Option.some.inj H;go_wp2;go_ret;exact ⟨eX,uH HB.out⟩
   replace H:=gD H;obtain ⟨mq,H⟩:=H;replace H:=gD H;obtain ⟨oP,H⟩:=H;replace H:=bO H;obtain ⟨Yz,A7,H⟩:=H;replace H:=gD H;obtain ⟨yE,H⟩:=H;replace H:=bO H;obtain ⟨abG,A9,H⟩:=H;have H':=zA H;clear H;have ahe : 0 ≤ (gp : Int):=oD;have ahf : gp < (l1.length : Int):=oD;obtain ⟨axV,auX,Sv⟩:=Kd.ic HR1.out gp ahe ahf;cases auX;replace Sv:=hc HB Sv;replace ahe:=eq_true ahe;replace ahf:=eq_true ahf;(try go_wp2);replace yo:=zA (eD yo.out);replace HB:=zA (aZ HB.out);have ahg : 0 ≤ (gp : Int):=oD;have ahh : gp < (aD.length : Int):=oD;obtain ⟨YB,auY,Gn⟩:=Kd.ic fP.out gp ahg ahh;have Lt:=Gn;cases auY;replace Gn:=hc HB Gn;replace ahg:=eq_true ahg;replace ahh:=eq_true ahh;refine kF (n:=13) (S:=fun w'=>w'.cell? ⟨YA,0,none⟩ = some (.int .i64 aH)∧w'.cell? ⟨YA,1,none⟩ = some (.slice (some YB) aD.length bJ)∧w'.cell? (YB.add (gp).toNat) = some (.int .i64 (rd aD gp))) (ds:=[]) #[false,false,false,false,false,false,false,false,false,false,false,false,false] (by kernel_rfl) rfl rfl ⟨bcu yo 0,bcu yo 1,(hcu HB Lt)⟩ (fun hHeld=>?_);refine gX bL.Ku bL.CV (fun HT_ HW_=>?_);generalize wr.drew = w10 at yo HB Gn hHeld ⊢;refine pu_ 2 17 (bl 13 4) HT_ ?_;refine pu_ 3 18 (bl 13 12) HT_ ?_;refine pu_ 4 19 (bl 13 28) HT_ ?_;refine pu_ 6 21 (bl 13 92) HT_ ?_;refine ta_ 0 15 (bl 13 93) HT_ HW_ hHeld ?_;refine ta_ 5 20 (bl 13 125) HT_ HW_ hHeld ?_;refine pu_ 7 22 (bl 13 253) HT_ ?_;refine ta_ 8 23 (bl 13 509) HT_ HW_ hHeld ?_;refine pu_ 9 24 (bl 13 1021) HT_ ?_;refine pu_ 10 25 (bl 13 2045) HT_ ?_;refine on_ 1 (some 16) (bl 13 2047) HT_ (fun K hK=>?_);refine gS Try.func40 #[.agg #[.int .i64 aH,.slice (some YB) aD.length bJ]] ?_;(with_reducible refine (eO.calls aH _ _ aD Yz _ ?side1 ?side2 A7.out).mono ?_);(case side1=>exact uC ((Kd.aW fP.out HB.out)));(case side2=>exact gG.out);rintro e w11 ⟨rfl,hb⟩;refine ⟨_,rfl,?_⟩;replace yo:=xB yo hb;replace HB:=xH HB hb;(try clear hb);refine hK.out _ _ ⟨bcu yo 0,bcu yo 1,(hcu HB Lt)⟩ (fun hHeld=>?_);clear hK K;refine no_ 16 ?_;refine on_ 11 (some 26) (bl 13 4095) HT_ (fun K hK=>?_);refine gS Try.func72 #[.int .i64 Yz,.int .i64 (wrap64 (gV + (wrap64 ((rd l1 gp) * (rd aD gp)))))] ?_;(with_reducible refine (fq.calls Yz (wrap64 (gV + (wrap64 ((rd l1 gp) * (rd aD gp))))) abG _ A9.out).mono ?_);rintro e w' ⟨rfl,⟨nd,rfl⟩⟩;refine ⟨_,rfl,?_⟩;refine hK.out _ _ ⟨bcu yo 0,bcu yo 1,(hcu HB Lt)⟩ (fun hHeld=>?_);clear hK K;refine no_ 26 ?_;refine pu_ 12 5 (bl 13 8191) HT_ ?_;refine done_ (done_of HT_.out (by kernel_rfl)) ?_;(try go_wp2);go_roundg k1;(case measure=>have:=HK1.out;omega);(case rel=>exact ⟨(abG),(wrap64 (gp + 1)),eS,eS,H',⟨by have:=HK1.out;omega⟩,⟨uB yo.out⟩,⟨uH HB.out⟩⟩)
/-! ### jm: function 103 -/
def jm.f (a0 : Int) (a1 : Int) (a2 : Int) : Option (Int):=(fq.f a0 (wrap64 (a1 * a2))).bind fun ahi=>(some ahi)
theorem jm.calls (a0 : Int) (a1 : Int) (a2 : Int) (r : Int) (w : World) (H : jm.f a0 a1 a2 = some r) :
  Calls Try.prog 103 #[.int .i64 a0,.int .i64 a1,.int .i64 a2] w fun e w'=>e = .returned (.int .i64 r)∧bA w w':=by
 unfold jm.f at H;replace H:=bO H;obtain ⟨ahi,A4,H⟩:=H;obtain rfl:=Option.some.inj H;go_enter Try.func103,Try.ntmps103;go_wp2_with (first | ((with_reducible refine ag (f:=72) rfl ?_);refine gL (some 11) Try.func72 #[.int .i64 a0,.int .i64 (wrap64 (a1 * a2))] ?_;(with_reducible refine (fq.calls a0 (wrap64 (a1 * a2)) ahi _ A4.out).mono ?_);rintro e w' ⟨rfl,⟨nd,rfl⟩⟩;refine ⟨_,rfl,?_⟩));go_ret;exact ⟨by first | rfl | (simp;done) | (simp [*];done),by repeat (first | exact bA.refl _ | apply bA.step)⟩
/-! ### fE: function 113 -/
def fE.l0 : Nat → Int → Int → Int → Int → Option (Int)
 | 0,_,_,_,_=>none
 | k + 1,x0,x1,x2,x7=>if x2 > 0 then (if (Int.tmod x2 2) = 1 then ((jm.f x0 x7 x1).bind fun abH=>((jm.f x0 x1 x1).bind fun abI=>(fE.l0 k x0 abI (wrap64 (Int.tdiv x2 2)) abH))) else ((jm.f x0 x1 x1).bind fun abJ=>(fE.l0 k x0 abJ (wrap64 (Int.tdiv x2 2)) x7))) else (some x7)
def fE.f (k : Nat) (a0 : Int) (a1 : Int) (a2 : Int) : Option (Int):=(fq.f a0 1).bind fun abK=>(fE.l0 k a0 a1 a2 abK)
theorem fE.calls (k : Nat) (a0 : Int) (a1 : Int) (a2 : Int) (r : Int) (w : World) (H : fE.f k a0 a1 a2 = some r) :
  Calls Try.prog 113 #[.int .i64 a0,.int .i64 a1,.int .i64 a2] w fun e w'=>e = .returned (.int .i64 r)∧bA w w':=by
 unfold fE.f at H;replace H:=bO H;obtain ⟨abK,A4,H⟩:=H;have H':=zA H;clear H;go_enter Try.func113,Try.ntmps113;go_wp2_with (first | ((with_reducible refine ag (f:=72) rfl ?_);refine gL (some 9) Try.func72 #[.int .i64 a0,.int .i64 1] ?_;(with_reducible refine (fq.calls a0 1 abK _ A4.out).mono ?_);rintro e w' ⟨rfl,⟨nd,rfl⟩⟩;refine ⟨_,rfl,?_⟩));go_loopg [1,2,7] k (fun kq v1 v2 v7 w'=>∃ (tL : Int) (wW : Int) (kg : Int),v1 = .int .i64 tL∧v2 = .int .i64 wW∧v7 = .int .i64 kg∧aa (fE.l0 kq a0 tL wW kg = some r)∧aa (kq ≤ k)∧bA w w');(case atStart=>exact ⟨(a1),(a2),(abK),eS,eS,eS,H',⟨Nat.le_refl _⟩,by repeat (first | exact bA.refl _ | apply bA.step)⟩)
 case round =>
  clear H';(try clear c1);(try clear p2);obtain ⟨tL,wW,kg,rfl,rfl,rfl,HA,HK1,⟨m1,rfl⟩⟩:=hrel
  cases gk with
  | zero=>exact absurd HA.out (by simp [fE.l0])
  | succ k1 =>
   have H:=HA.out;clear HA;simp only [fE.l0] at H;replace H:=gI H;obtain ⟨c5,H⟩|⟨c5,H⟩:=H
   ·have mq : decide (0 < wW) = false:=decide_eq_false c5;clear c5;obtain rfl:=Option.some.inj H;go_wp2;go_ret;exact ⟨by first | rfl | (simp;done) | (simp [*];done),by repeat (first | exact bA.refl _ | apply bA.step)⟩
   have mq : decide (0 < wW) = true:=decide_eq_true c5;clear c5;replace H:=gE H;obtain ⟨c6,oP,uE,H⟩|⟨c6,oP,uE,H⟩:=H
   ·replace H:=bO H;obtain ⟨abJ,A9,H⟩:=H;have H':=zA H;clear H;go_wp2_with (first | ((with_reducible refine ag (f:=103) rfl ?_);refine gL (some 24) Try.func103 #[.int .i64 a0,.int .i64 tL,.int .i64 tL] ?_;(with_reducible refine (jm.calls a0 tL tL abJ _ A9.out).mono ?_);rintro e w' ⟨rfl,⟨nd,rfl⟩⟩;refine ⟨_,rfl,?_⟩));go_roundg k1;(case measure=>have:=HK1.out;omega);(case rel=>exact ⟨(abJ),(wrap64 (Int.tdiv wW 2)),(kg),eS,eS,eS,H',⟨by have:=HK1.out;omega⟩,by repeat (first | exact bA.refl _ | apply bA.step)⟩)
   clear c6;replace H:=bO H;obtain ⟨abH,A7,H⟩:=H;replace H:=bO H;obtain ⟨abI,A8,H⟩:=H;have H':=zA H;clear H;go_wp2_with (first | ((with_reducible refine ag (f:=103) rfl ?_);refine gL (some 20) Try.func103 #[.int .i64 a0,.int .i64 kg,.int .i64 tL] ?_;(with_reducible refine (jm.calls a0 kg tL abH _ A7.out).mono ?_);rintro e w' ⟨rfl,⟨nd,rfl⟩⟩;refine ⟨_,rfl,?_⟩) | ((with_reducible refine ag (f:=103) rfl ?_);refine gL (some 24) Try.func103 #[.int .i64 a0,.int .i64 tL,.int .i64 tL] ?_;(with_reducible refine (jm.calls a0 tL tL abI _ A8.out).mono ?_);rintro e w' ⟨rfl,⟨nd,rfl⟩⟩;refine ⟨_,rfl,?_⟩));go_roundg k1;(case measure=>have:=HK1.out;omega);(case rel=>exact ⟨(abI),(wrap64 (Int.tdiv wW 2)),(abH),eS,eS,eS,H',⟨by have:=HK1.out;omega⟩,by repeat (first | exact bA.refl _ | apply bA.step)⟩)
/-! ### kK: function 104 -/
def kK.f (k : Nat) (a0 : Int) (a1 : Int) : Option (Int):=(fE.f k a0 a1 (wrap64 (a0 - 2))).bind fun ahj=>(some ahj)
theorem kK.calls (k : Nat) (a0 : Int) (a1 : Int) (r : Int) (w : World) (H : kK.f k a0 a1 = some r) :
  Calls Try.prog 104 #[.int .i64 a0,.int .i64 a1] w fun e w'=>e = .returned (.int .i64 r)∧bA w w':=by
 unfold kK.f at H;replace H:=bO H;obtain ⟨ahj,A3,H⟩:=H;obtain rfl:=Option.some.inj H;go_enter Try.func104,Try.ntmps104;go_wp2_with (first | ((with_reducible refine ag (f:=113) rfl ?_);refine gL (some 9) Try.func113 #[.int .i64 a0,.int .i64 a1,.int .i64 (wrap64 (a0 - 2))] ?_;(with_reducible refine (fE.calls k a0 a1 (wrap64 (a0 - 2)) ahj _ A3.out).mono ?_);rintro e w' ⟨rfl,⟨nd,rfl⟩⟩;refine ⟨_,rfl,?_⟩));go_ret;exact ⟨by first | rfl | (simp;done) | (simp [*];done),by repeat (first | exact bA.refl _ | apply bA.step)⟩
/-! ### j5: function 88 -/
def j5.f (k : Nat) (a0 : Int) (a1 : Int) (a2 : Int) : Option (Int):=(kK.f k a0 a2).bind fun YC=>((jm.f a0 a1 YC).bind fun ahk=>(some ahk))
theorem j5.calls (k : Nat) (a0 : Int) (a1 : Int) (a2 : Int) (r : Int) (w : World) (H : j5.f k a0 a1 a2 = some r) :
  Calls Try.prog 88 #[.int .i64 a0,.int .i64 a1,.int .i64 a2] w fun e w'=>e = .returned (.int .i64 r)∧bA w w':=by
 unfold j5.f at H;replace H:=bO H;obtain ⟨YC,A4,H⟩:=H;replace H:=bO H;obtain ⟨ahk,A5,H⟩:=H;obtain rfl:=Option.some.inj H;go_enter Try.func88,Try.ntmps88;go_wp2_with (first | ((with_reducible refine ag (f:=104) rfl ?_);refine gL (some 11) Try.func104 #[.int .i64 a0,.int .i64 a2] ?_;(with_reducible refine (kK.calls k a0 a2 YC _ A4.out).mono ?_);rintro e w' ⟨rfl,⟨nd,rfl⟩⟩;refine ⟨_,rfl,?_⟩) | ((with_reducible refine ag (f:=103) rfl ?_);refine gL (some 12) Try.func103 #[.int .i64 a0,.int .i64 a1,.int .i64 YC] ?_;(with_reducible refine (jm.calls a0 a1 YC ahk _ A5.out).mono ?_);rintro e w' ⟨rfl,⟨nd,rfl⟩⟩;refine ⟨_,rfl,?_⟩));go_ret;exact ⟨by first | rfl | (simp;done) | (simp [*];done),by repeat (first | exact bA.refl _ | apply bA.step)⟩
/-! ### ji: function 82 -/
def ji.l0 : Nat → List Int → Option (List Int)
 | 0,_=>none
 | k + 1,x0=>if (x0.length : Int) > 0 then (if 0 ≤ (wrap64 ((x0.length : Int) - 1)) then (if (wrap64 ((x0.length : Int) - 1)) < (x0.length : Int) then (if (rd x0 (wrap64 ((x0.length : Int) - 1))) = 0 then (if (wrap64 ((x0.length : Int) - 1)) ≤ (x0.length : Int) then (ji.l0 k (x0.take ((wrap64 ((x0.length : Int) - 1)) : Int).toNat)) else (none)) else (some x0)) else (none)) else (none)) else (some x0)
def ji.f (k : Nat) (l0 : List Int) : Option (List Int):=ji.l0 k l0
theorem ji.calls (k : Nat) (P0_ : Nat → Prop) (BV : Value) (l0 : List Int) (r : List Int) (w0 w : World) (hB : Below w0.heap.size w0 w) (ho0 : Kd.R (Kd.int .i64) 2 w w0.heap.size P0_ BV l0) (H : ji.f k l0 = some r) :
  Calls Try.prog 82 #[BV] w fun e w'=>∃ v0_ : Value,e = .returned (v0_)∧Kd.R (Kd.int .i64) 2 w' w0.heap.size (fun k_=>(P0_ k_ ∨ w.heap.size ≤ k_)) v0_ r∧Below w0.heap.size w0 w'∧Kept w w' (fun k_=>P0_ k_):=by
 have HO0:=zA (show Kd.R (Kd.int .i64) 2 w w0.heap.size (fun k_=>(P0_ k_ ∨ w.heap.size ≤ k_)) BV l0 from Kd.ah ho0 (fun k_ hk=>(.inl hk)));have HK:=zA (Kept.refl w (fun k_=>P0_ k_));have HW0:=zA hB.size;have HB:=zA hB;clear hB;unfold ji.f at H;have H':=zA H;clear H;go_enter Try.func82,Try.ntmps82;go_wp2;go_loopg [0] k (fun kq v0 w'=>∃ (Ci : List Int),aa (ji.l0 kq Ci = some r)∧aa (kq ≤ k)∧aa (Kd.R (Kd.int .i64) 2 w' w0.heap.size (fun k_=>(P0_ k_ ∨ w.heap.size ≤ k_)) v0 Ci)∧aa (Kept w w' (fun k_=>P0_ k_))∧aa (Below w0.heap.size w0 w'));(case atStart=>exact ⟨(l0),H',⟨Nat.le_refl _⟩,⟨uR HO0.out⟩,⟨by repeat (first | (with_reducible first | exact HK.out | apply Kept.alloc | apply Kept.drewN | apply Kept.drew) | exact HK.out)⟩,⟨uH HB.out⟩⟩)
 case round =>
  clear H';obtain ⟨Ci,HA,HK1,Je,HK,HB⟩:=hrel
  cases gk with
  | zero=>exact absurd HA.out (by simp [ji.l0])
  | succ k1 =>
   have H:=HA.out;clear HA;simp only [ji.l0] at H;replace H:=gI H;obtain ⟨c2,H⟩|⟨c2,H⟩:=H
   ·have ahl : decide (0 < (Ci.length : Int)) = false:=decide_eq_false c2;have auZ : decide (0 < Ci.length) = false:=decide_eq_false (by omega);clear c2;obtain rfl:=Option.some.inj H;obtain ⟨nZ,oh,rfl⟩:=Kd.bB Je.out;go_wp2;go_ret;exact ⟨_,eX,uR Je.out,uH HB.out,by repeat (first | (with_reducible first | exact HK.out | apply Kept.alloc | apply Kept.drewN | apply Kept.drew) | exact HK.out)⟩
   have ahl : decide (0 < (Ci.length : Int)) = true:=decide_eq_true c2;have auZ : decide (0 < Ci.length) = true:=decide_eq_true (by omega);clear c2;obtain ⟨ji3,Jf⟩ : ∃ j_ : Int,(wrap64 ((Ci.length : Int) - 1)) = j_:=⟨_,rfl⟩;(first | rw [Jf] at H | simp only [Jf] at H);have am2 : (IntKind.i64.wrap ((Ci.length : Int) - 1)) = ji3:=(jW _).trans Jf;replace H:=gD H;obtain ⟨pQ,H⟩:=H;replace H:=gD H;obtain ⟨mq,H⟩:=H;replace H:=gE H;obtain ⟨c6,oP,uE,H⟩|⟨c6,oP,uE,H⟩:=H
   ·obtain rfl:=Option.some.inj H;obtain ⟨aeF,aeG,rfl⟩:=Kd.bB Je.out;have Qg : 0 ≤ ((ji3) : Int):=oD;have Qh : (ji3) < (Ci.length : Int):=oD;obtain ⟨adI,ahm,abL⟩:=Kd.ic (Kd.aM Je.out).2.2 (ji3) Qg Qh;cases ahm;replace Qg:=eq_true Qg;replace Qh:=eq_true Qh;go_wp2;go_ret;exact ⟨_,by first | rfl | (simp [gY,ib] <;> rfl) | (simp only [← Jf];first | rfl | (simp [gY,ib] <;> rfl)) | (simp [*,gY,ib] <;> rfl),uR Je.out,uH HB.out,by repeat (first | (with_reducible first | exact HK.out | apply Kept.alloc | apply Kept.drewN | apply Kept.drew) | exact HK.out)⟩
   clear c6;replace H:=gN H;obtain ⟨c7,H⟩:=H;have Bl:=eq_true c7;have EE : decide ((ji3) ≤ (Ci.length : Int)) = true:=decide_eq_true c7;clear c7;obtain ⟨am3,YD⟩:=eY (Ci.take ((ji3) : Int).toNat : List Int);(try rw [←YD.out] at H);have H':=zA H;clear H;obtain ⟨Ao8,co8,rfl⟩:=Kd.bB Je.out;have Qg : 0 ≤ ((ji3) : Int):=oD;have Qh : (ji3) < (Ci.length : Int):=oD;obtain ⟨adI,ahm,abL⟩:=Kd.ic (Kd.aM Je.out).2.2 (ji3) Qg Qh;cases ahm;replace Qg:=eq_true Qg;replace Qh:=eq_true Qh;have q9 : ((ji3) : Int) ≤ ((Ci.length : Int) : Int):=oD;obtain ⟨i09,am4,_,au0,_⟩:=info_parts lh;have am5:=aet (P:=Try.prog) 24 2 .i64 Try.underlying24 am4 (some adI) Ci.length co8 (ji3) (of_decide_eq_true (by first | (with_reducible assumption) | assumption)) q9 (Kd.aM Je.out).2.1;have hr9:=Kd.OE (m:=((ji3) : Int).toNat) Je.out (by omega);have hy9 : am3.length = ((ji3) : Int).toNat:=(by rw [YD.out,List.length_take];omega);rw [← YD.out] at hr9;rw [← hy9] at hr9 am5;clear hy9 am4 au0 Je;have am6:=zA hr9;clear hr9;replace q9:=eq_true q9;go_wp2;go_roundg k1;(case measure=>have:=HK1.out;omega);(case rel=>exact ⟨(am3),H',⟨by have:=HK1.out;omega⟩,⟨uR am6.out⟩,⟨by repeat (first | (with_reducible first | exact HK.out | apply Kept.alloc | apply Kept.drewN | apply Kept.drew) | exact HK.out)⟩,⟨uH HB.out⟩⟩)
/-! ### fV: function 56 -/
def fV.l0 : Nat → Int → Int → List Int → List Int → Int → Int → Option (List Int)
 | 0,_,_,_,_,_,_=>none
 | k + 1,x0,x3,x9,x21,x22,x23=>if x23 < x22 then (if 0 ≤ x23 then (if x23 < (x21.length : Int) then (if x23 < (x9.length : Int) then ((fq.f x0 (wrap64 ((rd x9 x23) + (wrap64 (x3 * (rd x21 x23)))))).bind fun Uv=>(fV.l0 k x0 x3 (x9.set (x23 : Int).toNat Uv) x21 x22 (wrap64 (x23 + 1)))) else (none)) else (none)) else (none)) else ((ji.f k x9).bind fun ahn=>(some ahn))
def fV.f (k : Nat) (a0 : Int) (l1 : List Int) (l2 : List Int) (a3 : Int) : Option (List Int):=if 0 ≤ (mx (l1.length : Int) (l2.length : Int)) then (if (mx (l1.length : Int) (l2.length : Int) : Int).toNat ≤ 35184372088832 then (fV.l0 k a0 a3 (cpy (List.replicate (mx (l1.length : Int) (l2.length : Int) : Int).toNat 0) l1) l2 (l2.length : Int) 0) else (none)) else (none)
theorem fV.calls (k : Nat) (a0 : Int) (A1 : Option Addr) (c1 : Nat) (l1 : List Int) (A2 : Option Addr) (c2 : Nat) (l2 : List Int) (a3 : Int) (r : List Int) (w : World) (hr1 : Kd.C (Kd.int .i64) w A1 l1.length l1) (hc1 : l1.length ≤ c1) (hr2 : Kd.C (Kd.int .i64) w A2 l2.length l2) (hc2 : l2.length ≤ c2) (H : fV.f k a0 l1 l2 a3 = some r) :
  Calls Try.prog 56 #[.int .i64 a0,.slice A1 l1.length c1,.slice A2 l2.length c2,.int .i64 a3] w fun e w'=>∃ v0_ : Value,e = .returned (v0_)∧Kd.R (Kd.int .i64) 2 w' w.heap.size (fun _=>True) v0_ r∧Below w.heap.size w w':=by
 have HR1:=zA hr1;have HC1:=zA hc1;clear hr1 hc1;have HR2:=zA hr2;have HC2:=zA hc2;clear hr2 hc2;have HB:=zA (Below.refl w.heap.size w);unfold fV.f at H;obtain ⟨ji5,tu⟩ : ∃ j_ : Int,(mx (l1.length : Int) (l2.length : Int)) = j_:=⟨_,rfl⟩;(first | rw [tu] at H | simp only [tu] at H);(try (have am7 : 0 ≤ ji5:=by (rw [← tu];unfold mx;(repeat' split) <;> omega)));(try (have am8 : 0 ≤ ji5:=by omega));have Mq : (if (l1.length : Int) < (l2.length : Int) then (l2.length : Int) else (l1.length : Int)) = ji5:=tu;(try (have am9 : (if l1.length < l2.length then (l2.length : Int) else (l1.length : Int)) = ji5:=by have h_:=Mq;simpa only [Int.ofNat_lt] using h_));replace H:=gN H;obtain ⟨c6,H⟩:=H;have oP:=eq_true c6;have uE : decide (0 ≤ (ji5)) = true:=decide_eq_true c6;clear c6;replace H:=gN H;obtain ⟨c7,H⟩:=H;have Bl:=eq_true c7;have EE : decide ((ji5 : Int).toNat ≤ 35184372088832) = true:=decide_eq_true c7;clear c7;obtain ⟨ana,YE⟩:=eY (List.replicate (ji5 : Int).toNat 0 : List Int);(try rw [←YE.out] at H);obtain ⟨au1,adJ⟩:=eY (cpy ana l1 : List Int);(try rw [←adJ.out] at H);have H':=zA H;clear H;go_enter Try.func56,Try.ntmps56;go_wp2_with (first | ((with_reducible refine aT (N:=17) rfl ?_);refine Kd.BR (Kd.int .i64) _ 2 rfl (N:=17) rfl 24 _ _ rfl ji5 rfl rfl Try.underlying24 (.int .i64 0) 8 lh rfl (by decide) (by omega) 0 (ok:=fun _=>True) (okp:=fun _=>True) rfl (fun _ hk=>hk) trivial (of_decide_eq_true (by first | (with_reducible assumption) | assumption)) (Nat.le_trans (Nat.mul_le_mul_right _ (of_decide_eq_true (by first | (with_reducible assumption) | assumption) : ji5.toNat ≤ 35184372088832)) (by omega)) (Below.refl _ _) (Nat.le_refl _) ?_;intro anb w8 ho9 hb hg_ hnew_;clear hg_ hnew_;(first | rw [← YE.out] at ho9 | (simp only [Int.reduceToNat] at ho9;rw [← YE.out] at ho9));have adK:=zA (Kd.aX ho9 (af (uH HB.out)));replace HB:=xH HB hb;clear hb ho9) | ((with_reducible refine fo (b:=.copy) (xs:=#[.tmp 18,.tmp 19]) rfl ?_);skip;refine Qe (k:=.i64) (w0:=w) w.heap.size ?g1 (.tmp 18) (.tmp 19) 24 24 2 ?g2 ?g3 (.int .i64 0) 8 ?g4 anb ana l1 ?g5 ?g6 ?g7 (fun _=>True) ?g8 ?g9 ?aO ?aR ?aB ?aS ?_;(case g1=>rfl);(case g2=>rfl);(case g3=>exact Try.underlying24);(case g4=>exact lh);(case g8=>rfl);(case g9=>rfl);(case aR=>exact uC ((Kd.aW HR1.out HB.out)));(case aB=>exact (uH HB.out));(case aO=>exact (uR adK.out));(case aS=>exact (af (uH HB.out)));skip;intro w10 ho hb hg hat;rw [← adJ.out] at ho;replace HB:=zA (hb);have anc:=zA (ho);clear adK ho hb hg hat));go_loopg [23] k (fun kq v23 w'=>∃ (nD : List Int) (r9 : Int),v23 = .int .i64 r9∧aa (fV.l0 kq a0 a3 nD l2 (l2.length : Int) r9 = some r)∧aa (kq ≤ k)∧aa (Kd.R (Kd.int .i64) 2 w' w.heap.size (fun _=>True) anb nD)∧aa (Below w.heap.size w w'));(case atStart=>exact ⟨(au1),(0),eS,H',⟨Nat.le_refl _⟩,⟨uR anc.out⟩,⟨uH HB.out⟩⟩)
 case round =>
  clear H';(try clear c1);(try clear c2);(try clear p2);(try clear c5);(try clear c6);(try clear oP);(try clear uE);(try clear c7);(try clear Bl);(try clear EE);obtain ⟨nD,r9,rfl,HA,HK1,jM,HB⟩:=hrel
  cases gk with
  | zero=>exact absurd HA.out (by simp [fV.l0])
  | succ k1 =>
   have H:=HA.out;clear HA;simp only [fV.l0] at H;replace H:=gF H;obtain ⟨yP,H⟩|⟨yP,H⟩:=H
   ·replace H:=bO H;obtain ⟨ahn,A20,H⟩:=H;obtain rfl:=Option.some.inj H;obtain ⟨Vy,Vz,rfl⟩:=Kd.bB jM.out;go_wp2_with (first | ((with_reducible refine ag (f:=82) rfl ?_);refine gL (some 43) Try.func82 #[.slice Vy nD.length Vz] ?_;(with_reducible refine (ji.calls k1 (fun k_=>some k_ = (.slice Vy nD.length Vz : Value).ownBlock) (.slice Vy nD.length Vz) nD ahn w _ ?side1 ?side2 A20.out).mono ?_);(case side1=>exact uH HB.out);(case side2=>exact Kd.xW rfl jM.out);rintro e w22 ⟨az1,rfl,ho0,hb,hkp⟩;refine ⟨_,rfl,?_⟩;have ane:=zA (Kd.ah (ok':=fun k_=>True) ho0 (fun k_ hk_=>trivial));replace HB:=zA (hb);clear jM;(try clear hb);(try clear hkp);(try clear ho0)));go_ret;exact ⟨_,by first | rfl | (simp [gY,ib] <;> rfl) | (simp only [← tu];first | rfl | (simp [gY,ib] <;> rfl)) | (simp [*,gY,ib] <;> rfl),uR ane.out,uH HB.out⟩
   replace H:=gD H;obtain ⟨Fu,H⟩:=H;replace H:=gD H;obtain ⟨YF,H⟩:=H;replace H:=gD H;obtain ⟨xE,H⟩:=H;replace H:=bO H;obtain ⟨Uv,A15,H⟩:=H;obtain ⟨anf,adL⟩:=eY (nD.set (r9 : Int).toNat Uv : List Int);(try rw [←adL.out] at H);have H':=zA H;clear H;have aho : 0 ≤ (r9 : Int):=oD;have ahp : r9 < (l2.length : Int):=oD;obtain ⟨axW,au2,Sw⟩:=Kd.ic HR2.out r9 aho ahp;cases au2;replace Sw:=hc HB Sw;replace aho:=eq_true aho;replace ahp:=eq_true ahp;obtain ⟨MZ,Hf,rfl⟩:=Kd.bB jM.out;have ahq : 0 ≤ (r9 : Int):=oD;have ahr : r9 < (nD.length : Int):=oD;obtain ⟨ang,au3,abM⟩:=Kd.ic (Kd.aM jM.out).2.2 r9 ahq ahr;cases au3;replace ahq:=eq_true ahq;replace ahr:=eq_true ahr;go_wp2_with (first | ((with_reducible refine ag (f:=72) rfl ?_);refine gL (some 39) Try.func72 #[.int .i64 a0,.int .i64 (wrap64 ((rd nD r9) + (wrap64 (a3 * (rd l2 r9)))))] ?_;(with_reducible refine (fq.calls a0 (wrap64 ((rd nD r9) + (wrap64 (a3 * (rd l2 r9))))) Uv _ A15.out).mono ?_);rintro e w' ⟨rfl,⟨nd,rfl⟩⟩;refine ⟨_,rfl,?_⟩;(try (rw [vw wr];generalize hq_ : World.drewN wr _ = wr;have n0_ : aa (Kd.R (Kd.int .i64) 2 wr w.heap.size (fun _=>True) (.slice (some ang) nD.length Hf) nD):=⟨by rw [← hq_];exact (uR jM.out)⟩;have n1_ : aa (Below w.heap.size w wr):=⟨by rw [← hq_];exact (uH HB.out)⟩;clear jM HB hq_;have jM:=n0_;have HB:=n1_;clear n0_ n1_));have p16 : 0 ≤ (r9 : Int):=of_decide_eq_true (by first | (with_reducible assumption) | assumption);have q16 : (r9 : Int) < ((nD.length : Int) : Int):=of_decide_eq_true (by first | (with_reducible assumption) | assumption);obtain ⟨ahs,WX,Ug,anh,au4,az2,ani⟩:=Kd.yB jM.out (by omega);(first | cases Ug | (injection Ug with ea_ en_ ec_;(first | subst ea_ | (injection ea_ with ea_;subst ea_));subst ec_;clear en_));have anj:=zA anh;have:=geI anj;have az3:=zA ani;clear anh au4 ani;(first | simp only [add_plain] at abM | skip);obtain ⟨au5,au6⟩:=Kd.uj 0 jM.out (r9 : Int) p16 q16;replace p16:=eq_true p16;replace q16:=eq_true q16;obtain ⟨ank,anl⟩:=Kd.uj 0 jM.out (r9 : Int) (of_decide_eq_true (by first | (with_reducible assumption) | assumption)) (of_decide_eq_true (by first | (with_reducible assumption) | assumption));have Qi:=Kd.GU jM.out (r9 : Int) Uv) | ((with_reducible refine qB (t:=2) (p:=40) rfl ?_);refine pq (t:=2) (p:=40) (v:=?aht) (w1:=(wr.setCell ⟨ahs,(r9 : Int).toNat,none⟩ (.int .i64 Uv))) ?hg ?ho ?hn ?hr ?_;(case ho=>rfl);(case hg=>rfl);(case hn=>rfl);(case hr=>first | (go_simp;done) | (go_simp;rfl));intro w19 hw;have hg : wr.grownBy w19 (some ahs):=(by rw [hw];exact Qi.2);have hp_ : Kd.R (Kd.int .i64) 2 w19 w.heap.size (fun _=>True) (.slice (some ⟨ahs,0,none⟩) nD.length Hf) anf:=(by rw [hw,adL.out];exact Qi.1);clear Qi;replace jM:=zA (hp_);replace HB:=zA ((by rw [hw];exact lC (HB.out) anj.out : Below w.heap.size w w19));clear hg hw hp_));go_roundg k1;(case measure=>have:=HK1.out;omega);(case rel=>exact ⟨(anf),(wrap64 (r9 + 1)),eS,H',⟨by have:=HK1.out;omega⟩,⟨uR jM.out⟩,⟨uH HB.out⟩⟩)
/-! ### cZ: function 63 -/
def cZ.l0 : Nat → Int → List Int → List (List Int) → List Int → Option (List Int)
 | 0,_,_,_,_=>none
 | k + 1,x0,x1,x2,x7=>if (x1.length : Int) > 0 then ((jY.f x1).bind fun qi=>(if 0 ≤ qi then (if qi < (x1.length : Int) then (if qi < (x7.length : Int) then ((some (x7.set (qi : Int).toNat (rd x1 qi) : List Int)).bind fun Lu=>(if qi < (x2.length : Int) then ((fq.f x0 (wrap64 (-(rd Lu qi)))).bind fun YG=>((fV.f k x0 x1 (gW x2 qi) YG).bind fun abN=>(cZ.l0 k x0 abN x2 Lu))) else (none))) else (none)) else (none)) else (none))) else (some x7)
def cZ.f (k : Nat) (a0 : Int) (l1 : List Int) (l2 : List (List Int)) : Option (List Int):=if 0 ≤ (l1.length : Int) then (if ((l1.length : Int) : Int).toNat ≤ 35184372088832 then (cZ.l0 k a0 l1 l2 (List.replicate ((l1.length : Int) : Int).toNat 0)) else (none)) else (none)
def cZ.T5 : Bool × List (List Nat × List Nat):=(true,[([],[]),([],[]),([],[]),([],[]),([2,3],[2,3]),([4],[4]),([],[]),([],[]),([],[]),([7,8],[7,8]),([9],[9]),([10],[10]),([6,11],[6,11]),([0,1,5,12,12],[0,1,5,12]),([13,13,0,1,2,3,4,5,6,7,8,9,10,11,12,13],[1,13])])
def cZ.B5 : List Nat:=[0,0,0,0,12,28,0,0,0,384,896,1920,4032,8191,16383]
theorem cZ.Ku : mf .any (opsOf Try.f63 5) = cZ.T5:=by kernel_rfl
theorem cZ.CV : jP cZ.T5.2 cZ.B5 = true:=by kernel_rfl
theorem cZ.calls (k : Nat) (a0 : Int) (P1_ : Nat → Prop) (A1 : Option Addr) (c1 : Nat) (l1 : List Int) (A2 : Option Addr) (c2 : Nat) (l2 : List (List Int)) (r : List Int) (w : World) (hs1 : Kd.V (Kd.int .i64) 2 w w.heap.size (fun k_=>P1_ k_) (.slice A1 l1.length c1) l1) (hr2 : Kd.C (Kd.slice 2 (Kd.int .i64)) w A2 l2.length l2) (hc2 : l2.length ≤ c2) (H : cZ.f k a0 l1 l2 = some r) :
  Calls Try.prog 63 #[.int .i64 a0,.slice A1 l1.length c1,.slice A2 l2.length c2] w fun e w'=>∃ v0_ : Value,e = .returned (v0_)∧Kd.R (Kd.int .i64) 2 w' w.heap.size (fun k_=>(w.heap.size ≤ k_)) v0_ r∧Below w.heap.size w w':=by
 have HO1:=zA (show Kd.V (Kd.int .i64) 2 w w.heap.size (fun k_=>(P1_ k_ ∨ w.heap.size ≤ k_)) (.slice A1 l1.length c1) l1 from Kd.fD hs1 (fun k_ hk=>.inl hk));have HR2:=zA hr2;have HC2:=zA hc2;clear hr2 hc2;have HB:=zA (Below.refl w.heap.size w);unfold cZ.f at H;replace H:=gN H;obtain ⟨c4,H⟩:=H;have pQ:=eq_true c4;have MN : decide (0 ≤ (l1.length : Int)) = true:=decide_eq_true c4;clear c4;replace H:=gN H;obtain ⟨c5,H⟩:=H;have mq:=eq_true c5;have uP : decide (((l1.length : Int) : Int).toNat ≤ 35184372088832) = true:=decide_eq_true c5;clear c5;obtain ⟨au7,YH⟩:=eY (List.replicate ((l1.length : Int) : Int).toNat 0 : List Int);(try rw [←YH.out] at H);have H':=zA H;clear H;go_enter Try.func63,Try.ntmps63;go_wp2_with (first | ((with_reducible refine aT (N:=11) rfl ?_);refine Kd.BR (Kd.int .i64) _ 2 rfl (N:=11) rfl 24 _ _ rfl (l1.length : Int) rfl rfl Try.underlying24 (.int .i64 0) 8 lh rfl (by decide) (by omega) 0 (ok:=fun _=>True) (okp:=fun _=>True) rfl (fun _ hk=>hk) trivial (of_decide_eq_true (by first | (with_reducible assumption) | assumption)) (Nat.le_trans (Nat.mul_le_mul_right _ (of_decide_eq_true (by first | (with_reducible assumption) | assumption) : (l1.length : Int).toNat ≤ 35184372088832)) (by omega)) (Below.refl _ _) (Nat.le_refl _) ?_;intro abO w6 ho7 hb hg_ hnew_;clear hg_ hnew_;(first | rw [← YH.out] at ho7 | (simp only [Int.reduceToNat] at ho7;rw [← YH.out] at ho7));replace HO1:=zA (Kd.fT (uV HO1.out) (Kd.aG ho7) hb);have anm:=zA (Kd.aX (Kd.jg (M:=fun k_=>(w.heap.size ≤ k_)) ho7 (af (uH HB.out)) (fun k_ h_=>h_)) (af (uH HB.out)));replace HB:=xH HB hb;clear hb ho7));go_loopg [1] k (fun kq v1 w'=>∃ (tL : List Int) (kg : List Int),aa (cZ.l0 kq a0 tL l2 kg = some r)∧aa (kq ≤ k)∧aa (Kd.V (Kd.int .i64) 2 w' w.heap.size (fun k_=>(P1_ k_ ∨ w.heap.size ≤ k_)∧ax k_ abO) v1 tL)∧aa (Kd.R (Kd.int .i64) 2 w' w.heap.size (fun k_=>(w.heap.size ≤ k_)) abO kg)∧aa (Below w.heap.size w w'));(case atStart=>exact ⟨(l1),(au7),H',⟨Nat.le_refl _⟩,⟨uV HO1.out⟩,⟨uR (Kd.ah anm.out (fun _ hk=>hk.1))⟩,⟨uH HB.out⟩⟩)
 case round =>
  clear H';(try clear c1);(try clear c2);(try clear p2);(try clear c4);(try clear pQ);(try clear MN);(try clear c5);(try clear mq);(try clear uP);(try clear c6);obtain ⟨tL,kg,HA,HK1,nS,dX,HB⟩:=hrel
  cases gk with
  | zero=>exact absurd HA.out (by simp [cZ.l0])
  | succ k1 =>
   have H:=HA.out;clear HA;simp only [cZ.l0] at H;replace H:=gI H;obtain ⟨c8,H⟩|⟨c8,H⟩:=H
   ·have yE : decide (0 < (tL.length : Int)) = false:=decide_eq_false c8;have Ja : decide (0 < tL.length) = false:=decide_eq_false (by omega);clear c8;obtain rfl:=Option.some.inj H;obtain ⟨xU,wU,rfl⟩:=Kd.De nS.out;go_wp2;go_ret;exact ⟨_,eX,uR dX.out,uH HB.out⟩
   have yE : decide (0 < (tL.length : Int)) = true:=decide_eq_true c8;have Ja : decide (0 < tL.length) = true:=decide_eq_true (by omega);clear c8;replace H:=bO H;obtain ⟨qi,A9,H⟩:=H;replace H:=gD H;obtain ⟨qH,H⟩:=H;replace H:=gD H;obtain ⟨yP,H⟩:=H;replace H:=gD H;obtain ⟨Fu,H⟩:=H;replace H:=bS H;obtain ⟨Lu,adM,H⟩:=H;replace H:=gD H;obtain ⟨xE,H⟩:=H;replace H:=bO H;obtain ⟨YG,A15,H⟩:=H;replace H:=bO H;obtain ⟨abN,A16,H⟩:=H;have H':=zA H;clear H;obtain ⟨MZ,Hf,rfl⟩:=Kd.De nS.out;(try go_wp2_with (first | ((with_reducible refine ag (f:=61) rfl ?_);refine gL (some 16) Try.func61 #[.slice MZ tL.length Hf] ?_;(with_reducible refine (jY.calls _ _ tL qi _ ?side1 ?side2 A9.out).mono ?_);(case side1=>exact uC ((Kd.iJ nS.out).2.2));(case side2=>exact (Kd.iJ nS.out).2.1);rintro e w' ⟨rfl,⟨nd,rfl⟩⟩;refine ⟨_,rfl,?_⟩;(try (rw [vw wr];generalize hq_ : World.drewN wr _ = wr;have n0_ : aa (Kd.V (Kd.int .i64) 2 wr w.heap.size (fun k_=>(P1_ k_ ∨ w.heap.size ≤ k_)∧ax k_ abO) (.slice MZ tL.length Hf) tL):=⟨by rw [← hq_];exact (uV nS.out)⟩;have n1_ : aa (Kd.R (Kd.int .i64) 2 wr w.heap.size (fun k_=>(w.heap.size ≤ k_)) abO kg):=⟨by rw [← hq_];exact (uR dX.out)⟩;have n2_ : aa (Below w.heap.size w wr):=⟨by rw [← hq_];exact (uH HB.out)⟩;clear nS dX HB hq_;have nS:=n0_;have dX:=n1_;have HB:=n2_;clear n0_ n1_ n2_));have ahu : 0 ≤ (qi : Int):=of_decide_eq_true (by first | (with_reducible assumption) | assumption);have ahv : qi < (tL.length : Int):=of_decide_eq_true (by first | (with_reducible assumption) | assumption);obtain ⟨ann,au8,arS⟩:=Kd.ic (Kd.iJ nS.out).2.2 qi ahu ahv;cases au8;replace ahu:=eq_true ahu;replace ahv:=eq_true ahv;have p13 : 0 ≤ (qi : Int):=of_decide_eq_true (by first | (with_reducible assumption) | assumption);have q13 : (qi : Int) < ((kg.length : Int) : Int):=of_decide_eq_true (by first | (with_reducible assumption) | assumption);obtain ⟨IK,vD,Qj,YI,ahw,au9,YJ⟩:=Kd.yB dX.out (by omega);(first | cases Qj | (injection Qj with ea_ en_ ec_;(first | subst ea_ | (injection ea_ with ea_;subst ea_));subst ec_;clear en_));have YK:=zA YI;have:=geI YK;have ava:=zA YJ;clear YI ahw YJ;obtain ⟨YL,ahx⟩:=Kd.uj 0 dX.out (qi : Int) p13 q13;replace p13:=eq_true p13;replace q13:=eq_true q13;obtain ⟨ank,anl⟩:=Kd.uj 0 dX.out (qi : Int) (of_decide_eq_true (by first | (with_reducible assumption) | assumption)) (of_decide_eq_true (by first | (with_reducible assumption) | assumption));have Qi:=Kd.GU dX.out (qi : Int) (rd tL qi)) | ((with_reducible refine qB (t:=2) (p:=23) rfl ?_);refine pq (t:=2) (p:=23) (v:=?aht) (w1:=(wr.setCell ⟨IK,(qi : Int).toNat,none⟩ (.int .i64 (rd tL qi)))) ?hg ?ho ?hn ?hr ?_;(case ho=>rfl);(case hg=>rfl);(case hn=>rfl);(case hr=>first | (go_simp;done) | (go_simp;rfl));intro w19 hw;have hg : wr.grownBy w19 (some IK):=(by rw [hw];exact Qi.2);have hp_ : Kd.R (Kd.int .i64) 2 w19 w.heap.size (fun k_=>(w.heap.size ≤ k_)) (.slice (some ⟨IK,0,none⟩) kg.length vD) Lu:=(by rw [hw,adM.out];exact Qi.1);clear Qi;replace nS:=zA (Kd.lX (v:=(.slice (some ⟨IK,0,none⟩) kg.length vD)) (v1:=(.slice (some ⟨IK,0,none⟩) kg.length vD)) (ok:=(fun k_=>(P1_ k_ ∨ w.heap.size ≤ k_))) (uV nS.out) hg (.inl rfl));replace dX:=zA (hp_);replace HB:=zA ((by rw [hw];exact lC (HB.out) YK.out : Below w.heap.size w w19));clear hg hw hp_)));replace nS:=zA (Kd.iX nS.out);replace dX:=zA (Kd.iV dX.out);replace HB:=zA (aZ HB.out);have ahy : 0 ≤ (qi : Int):=oD;have ahz : qi < (l2.length : Int):=oD;obtain ⟨ano,YM,YN,avb,Gp,Sy,Sz⟩:=Ao HR2.out qi ahy ahz;have Lv:=Gp;cases avb;replace Gp:=hc HB Gp;have SA:=zA Sz;have abP:=zA Sy;clear Sz Sy;replace ahy:=eq_true ahy;replace ahz:=eq_true ahz;have ahA : 0 ≤ (qi : Int):=oD;have ahB : qi < (Lu.length : Int):=(by have h_ : (qi : Int) < ((kg.length : Int) : Int):=of_decide_eq_true (by first | (with_reducible assumption) | assumption);first | (have e_:=(Kd.aM dX.out).1;omega) | simpa only [adM.out,List.length_set] using h_);have axX : ((qi : Int) < ((kg.length : Int) : Int)) = True:=eq_true (of_decide_eq_true (by first | (with_reducible assumption) | assumption));obtain ⟨anp,avc,DW⟩:=Kd.ic (Kd.aM dX.out).2.2 qi ahA ahB;obtain rfl : (⟨IK,0,none⟩ : Addr) = anp:=(by injection avc);(first | simp only [add_plain] at DW | simp only [GG] at DW | simp only [Addr.add,Nat.zero_add] at DW | skip);replace ahA:=eq_true ahA;replace ahB:=eq_true ahB;refine kF (n:=15) (S:=fun w'=>w'.cell? (ano.add (qi).toNat) = some (.slice YM (gW l2 qi).length YN)∧w'.cell? ⟨IK,(qi).toNat,none⟩ = some (.int .i64 (rd Lu qi))) (ds:=[]) #[false,false,false,false,false,false,false,false,false,false,false,false,false,false,false] (by kernel_rfl) rfl rfl ⟨(hcu HB Lv),DW⟩ (fun hHeld=>?_);refine gX cZ.Ku cZ.CV (fun HT_ HW_=>?_);generalize w19.drew = w20 at nS dX HB SA Gp DW hHeld ⊢;refine pu_ 0 24 (bl 15 1) HT_ ?_;refine pu_ 1 25 (bl 15 3) HT_ ?_;refine pu_ 2 26 (bl 15 7) HT_ ?_;refine pu_ 3 27 (bl 15 15) HT_ ?_;refine pu_ 4 28 (bl 15 31) HT_ ?_;refine pu_ 6 30 (bl 15 95) HT_ ?_;refine pu_ 7 31 (bl 15 223) HT_ ?_;refine pu_ 8 32 (bl 15 479) HT_ ?_;refine pu_ 9 33 (bl 15 991) HT_ ?_;refine ta_ 5 29 (bl 15 1023) HT_ HW_ hHeld ?_;refine ta_ 10 34 (bl 15 2047) HT_ HW_ hHeld ?_;refine pu_ 11 35 (bl 15 4095) HT_ ?_;refine on_ 12 (some 36) (bl 15 8191) HT_ (fun K hK=>?_);refine gS Try.func72 #[.int .i64 a0,.int .i64 (wrap64 (-(rd Lu qi)))] ?_;(with_reducible refine (fq.calls a0 (wrap64 (-(rd Lu qi))) YG _ A15.out).mono ?_);rintro e w' ⟨rfl,⟨nd,rfl⟩⟩;refine ⟨_,rfl,?_⟩;refine hK.out _ _ ⟨(hcu HB Lv),hHeld.2⟩ (fun hHeld=>?_);clear hK K;refine no_ 36 ?_;refine on_ 13 (some 37) (bl 15 16383) HT_ (fun K hK=>?_);refine gS Try.func56 #[.int .i64 a0,.slice (some ann) tL.length Hf,.slice YM (gW l2 qi).length YN,.int .i64 YG] ?_;(with_reducible refine (fV.calls k1 a0 _ _ tL _ _ (gW l2 qi) YG abN _ ?side1 ?side2 ?side3 ?side4 A16.out).mono ?_);(case side1=>exact uC ((Kd.iJ nS.out).2.2));(case side2=>exact (Kd.iJ nS.out).2.1);(case side3=>repeat (first | exact (Kd.aW SA.out (uH HB.out)) | (with_reducible refine Kd.dU ?_ _) | (with_reducible refine Kd.dV ?_ _) | (with_reducible refine Kd.fK ?_)));(case side4=>exact abP.out);rintro e w21 ⟨az4,rfl,ho0,hb⟩;have avd:=(hb.cell (World.block_lt_of_cell? _ _ (hHeld.2))).trans (hHeld.2);refine ⟨_,rfl,?_⟩;replace nS:=zA (Kd.fT (uV nS.out) (Kd.aG ho0) hb);have anq:=zA (Kd.aX (nw (Kd.jg (M:=fun k_=>(w.heap.size ≤ k_)) ho0 (af (uH HB.out)) (fun k_ h_=>h_)) (uR dX.out)) (af (uH HB.out)));replace dX:=zA (Kd.aJ (uR dX.out) (Kd.aG ho0) hb);replace HB:=xH HB hb;(try clear hb);(try clear ho0);refine hK.out _ _ ⟨(hcu HB Lv),avd⟩ (fun hHeld=>?_);clear hK K;refine no_ 37 ?_;refine pu_ 14 1 (bl 15 32767) HT_ ?_;refine done_ (done_of HT_.out (by kernel_rfl)) ?_;(try go_wp2);go_roundg k1;(case measure=>have:=HK1.out;omega);(case rel=>exact ⟨(abN),(Lu),H',⟨by have:=HK1.out;omega⟩,⟨Kd.fD (Kd.R_V (uR anq.out)) (fun k_ hk=>by first | exact ⟨.inr hk.1.1,hk.2⟩ | exact .inr (⟨hk.1.1,hk.2⟩))⟩,⟨uR (Kd.ah dX.out (fun _ hk=>hk.1))⟩,⟨uH HB.out⟩⟩)
/-! ### bv: function 87 -/
mutual
def bv.j0 : Nat → Int → List Int → List Int → Bool → Option (List Int)
 | 0,_,_,_,_=>none
 | k + 1,x0,x1,x2,x19=>if x19 = true then (some ([] : List Int)) else (if 0 ≤ (wrap64 ((wrap64 ((x1.length : Int) + (x2.length : Int))) - 1)) then (if (wrap64 ((wrap64 ((x1.length : Int) + (x2.length : Int))) - 1) : Int).toNat ≤ 35184372088832 then (bv.l0 k x0 x2 (List.replicate (wrap64 ((wrap64 ((x1.length : Int) + (x2.length : Int))) - 1) : Int).toNat 0) x1 (x1.length : Int) 0) else (none)) else (none))
def bv.l0 : Nat → Int → List Int → List Int → List Int → Int → Int → Option (List Int)
 | 0,_,_,_,_,_,_=>none
 | k + 1,x0,x2,x7,x27,x28,x29=>if x29 < x28 then (if 0 ≤ x29 then (if x29 < (x27.length : Int) then (bv.l1 k x0 x2 x7 x29 (rd x27 x29) x27 x28 x29 x2 (x2.length : Int) 0) else (none)) else (none)) else ((ji.f k x7).bind fun ahC=>(some ahC))
def bv.l1 : Nat → Int → List Int → List Int → Int → Int → List Int → Int → Int → List Int → Int → Int → Option (List Int)
 | 0,_,_,_,_,_,_,_,_,_,_,_=>none
 | k + 1,x0,x2,x7,x8,x9,x27,x28,x29,x34,x35,x36=>if x36 < x35 then (if 0 ≤ x36 then (if x36 < (x34.length : Int) then (if 0 ≤ (wrap64 (x8 + x36)) then (if (wrap64 (x8 + x36)) < (x7.length : Int) then ((fq.f x0 (wrap64 ((rd x7 (wrap64 (x8 + x36))) + (wrap64 (x9 * (rd x34 x36)))))).bind fun Uw=>(bv.l1 k x0 x2 (x7.set ((wrap64 (x8 + x36)) : Int).toNat Uw) x8 x9 x27 x28 x29 x34 x35 (wrap64 (x36 + 1)))) else (none)) else (none)) else (none)) else (none)) else (bv.l0 k x0 x2 x7 x27 x28 (wrap64 (x29 + 1)))
end
def bv.f (k : Nat) (a0 : Int) (l1 : List Int) (l2 : List Int) : Option (List Int):=if (l1.length : Int) = 0 then (bv.j0 k a0 l1 l2 true) else (bv.j0 k a0 l1 l2 ((l2.length : Int) == 0))
theorem bv.calls (k : Nat) (a0 : Int) (A1 : Option Addr) (c1 : Nat) (l1 : List Int) (A2 : Option Addr) (c2 : Nat) (l2 : List Int) (r : List Int) (w : World) (hr1 : Kd.C (Kd.int .i64) w A1 l1.length l1) (hc1 : l1.length ≤ c1) (hr2 : Kd.C (Kd.int .i64) w A2 l2.length l2) (hc2 : l2.length ≤ c2) (H : bv.f k a0 l1 l2 = some r) :
  Calls Try.prog 87 #[.int .i64 a0,.slice A1 l1.length c1,.slice A2 l2.length c2] w fun e w'=>∃ v0_ : Value,e = .returned (v0_)∧Kd.R (Kd.int .i64) 2 w' w.heap.size (fun _=>True) v0_ r∧Below w.heap.size w w':=by
 have HR1:=zA hr1;have HC1:=zA hc1;clear hr1 hc1;have HR2:=zA hr2;have HC2:=zA hc2;clear hr2 hc2;have HB:=zA (Below.refl w.heap.size w);unfold bv.f at H;have HC4:=zA H;clear H;go_enter Try.func87,Try.ntmps87;go_upto_region 1 with (fail);go_cut [19] (fun v19 wc=>∃ (kq : Nat) (YO : Bool),v19 = .bool YO∧aa (bv.j0 kq a0 l1 l2 YO = some r)∧aa (kq ≤ k)∧aa (Below w.heap.size w wc))
 case first =>
  have H:=HC4.out;clear HC4;replace H:=gE H;obtain ⟨c5,mq,uP,H⟩|⟨c5,mq,uP,H⟩:=H
  ·have PQ : ¬ (l1 = []):=fun h_=>c5 (by rw [h_];rfl);(first | rw [mq] | (simp only [jW,nH];rw [mq]) | skip);have H':=zA H;clear H;go_wp2;go_meet;(case rel=>exact ⟨_,(((l2.length : Int) == 0)),eS,H',⟨by first | omega | exact Nat.le_refl _⟩,⟨uH HB.out⟩⟩)
  clear c5;(first | rw [mq] | (simp only [jW,nH];rw [mq]) | skip);have H':=zA H;clear H;go_wp2;go_meet;(case rel=>exact ⟨_,(true),eS,H',⟨by first | omega | exact Nat.le_refl _⟩,⟨uH HB.out⟩⟩)
 case rest =>
  clear HC4;(try clear c1);(try clear c2);(try clear p2);(try clear c5);(try clear mq);(try clear uP);(try clear PQ);obtain ⟨kq,YO,rfl,HA,HJ3,HB⟩:=hcut
  cases kq with
  | zero=>exact absurd HA.out (by simp [bv.j0])
  | succ kj3 =>
   have H:=HA.out;clear HA;simp only [bv.j0] at H;replace H:=gB H;obtain ⟨rfl,H⟩|⟨rfl,H⟩:=H
   ·obtain rfl:=Option.some.inj H;go_wp2;go_ret;exact ⟨_,eX,by first | exact Kd.nE _ _ _ _ _ | exact Kd.wH _ _ _ _ _ | exact Kd.qz _ _ _ _ _ | exact Kd.rq _ _ _ _ _ | exact Kd.ru _ _ _ _ _,uH HB.out⟩
   ·obtain ⟨ji7,EL⟩ : ∃ j_ : Int,(wrap64 ((wrap64 ((l1.length : Int) + (l2.length : Int))) - 1)) = j_:=⟨_,rfl⟩;(first | rw [EL] at H | simp only [EL] at H);have adk : (IntKind.i64.wrap ((wrap64 ((l1.length : Int) + (l2.length : Int))) - 1)) = ji7:=(jW _).trans EL;replace H:=gN H;obtain ⟨c8,H⟩:=H;have yE:=eq_true c8;have Ja : decide (0 ≤ (ji7)) = true:=decide_eq_true c8;clear c8;replace H:=gN H;obtain ⟨c9,H⟩:=H;have Da:=eq_true c9;have I5 : decide ((ji7 : Int).toNat ≤ 35184372088832) = true:=decide_eq_true c9;clear c9;obtain ⟨ave,YP⟩:=eY (List.replicate (ji7 : Int).toNat 0 : List Int);(try rw [←YP.out] at H);have H':=zA H;clear H;go_wp2_with (first | ((with_reducible refine aT (N:=26) rfl ?_);(try (refine lq (by rfl) ?_;dsimp only));refine Kd.BR (Kd.int .i64) _ 2 rfl (N:=26) rfl 24 _ _ rfl ji7 rfl rfl Try.underlying24 (.int .i64 0) 8 lh rfl (by decide) (by omega) 0 (ok:=fun _=>True) (okp:=fun _=>True) rfl (fun _ hk=>hk) trivial (of_decide_eq_true (by first | (with_reducible assumption) | assumption)) (Nat.le_trans (Nat.mul_le_mul_right _ (of_decide_eq_true (by first | (with_reducible assumption) | assumption) : ji7.toNat ≤ 35184372088832)) (by omega)) (Below.refl _ _) (Nat.le_refl _) ?_;intro anr w10 wV hb hg_ hnew_;clear hg_ hnew_;(first | rw [← YP.out] at wV | (simp only [Int.reduceToNat] at wV;rw [← YP.out] at wV));have ant:=zA (Kd.aX wV (af (uH HB.out)));replace HB:=xH HB hb;clear hb wV));go_loopg [29] kj3 (fun kq v29 w'=>∃ (Cc : List Int) (yt : Int),v29 = .int .i64 yt∧aa (bv.l0 kq a0 l2 Cc l1 (l1.length : Int) yt = some r)∧aa (kq ≤ kj3)∧aa (Kd.R (Kd.int .i64) 2 w' w.heap.size (fun _=>True) anr Cc)∧aa (Below w.heap.size w w'));(case atStart=>exact ⟨(ave),(0),eS,H',⟨Nat.le_refl _⟩,⟨uR ant.out⟩,⟨uH HB.out⟩⟩)
    case round =>
     clear H';(try clear c1);(try clear c2);(try clear p2);(try clear c5);(try clear mq);(try clear uP);(try clear PQ);(try clear c6);(try clear p6);(try clear c8);(try clear yE);(try clear Ja);(try clear c9);(try clear Da);(try clear I5);(try clear p2);obtain ⟨Cc,yt,rfl,HA,HK2,dX,HB⟩:=hrel
     cases gk with
     | zero=>exact absurd HA.out (by simp [bv.l0])
     | succ k2 =>
      have H:=HA.out;clear HA;simp only [bv.l0] at H;replace H:=gF H;obtain ⟨Fu,H⟩|⟨Fu,H⟩:=H
      ·replace H:=bO H;obtain ⟨ahC,A26,H⟩:=H;obtain rfl:=Option.some.inj H;obtain ⟨KE,KF,rfl⟩:=Kd.bB dX.out;go_wp2_with (first | ((with_reducible refine ag (f:=82) rfl ?_);refine gL (some 61) Try.func82 #[.slice KE Cc.length KF] ?_;(with_reducible refine (ji.calls k2 (fun k_=>some k_ = (.slice KE Cc.length KF : Value).ownBlock) (.slice KE Cc.length KF) Cc ahC w _ ?side1 ?side2 A26.out).mono ?_);(case side1=>exact uH HB.out);(case side2=>exact Kd.xW rfl dX.out);rintro e w28 ⟨az5,rfl,ho0,hb,hkp⟩;refine ⟨_,rfl,?_⟩;have anu:=zA (Kd.ah (ok':=fun k_=>True) ho0 (fun k_ hk_=>trivial));replace HB:=zA (hb);clear dX;(try clear hb);(try clear hkp);(try clear ho0)));go_ret;exact ⟨_,by first | rfl | (simp [gY,ib] <;> rfl) | (simp only [← EL];first | rfl | (simp [gY,ib] <;> rfl)) | (simp [*,gY,ib] <;> rfl),uR anu.out,uH HB.out⟩
      replace H:=gD H;obtain ⟨YF,H⟩:=H;replace H:=gD H;obtain ⟨xE,H⟩:=H;have H':=zA H;clear H;have abQ : 0 ≤ (yt : Int):=oD;have abR : yt < (l1.length : Int):=oD;obtain ⟨axY,avf,Lx⟩:=Kd.ic HR1.out yt abQ abR;cases avf;replace Lx:=hc HB Lx;replace abQ:=eq_true abQ;replace abR:=eq_true abR;go_wp2;go_loopg [36] k2 (fun kq v36 w'=>∃ (xM : List Int) (Aw : Int),v36 = .int .i64 Aw∧aa (bv.l1 kq a0 l2 xM yt (rd l1 yt) l1 (l1.length : Int) yt l2 (l2.length : Int) Aw = some r)∧aa (kq ≤ k2)∧aa (Kd.R (Kd.int .i64) 2 w' w.heap.size (fun _=>True) anr xM)∧aa (Below w.heap.size w w'));(case atStart=>exact ⟨(Cc),(0),eS,H',⟨Nat.le_refl _⟩,⟨uR dX.out⟩,⟨uH HB.out⟩⟩)
      case round =>
       clear H';(try clear c1);(try clear c2);(try clear p2);(try clear c5);(try clear mq);(try clear uP);(try clear PQ);(try clear c6);(try clear p6);(try clear c8);(try clear yE);(try clear Ja);(try clear p8);(try clear q8);(try clear hx8);(try clear c9);(try clear Da);(try clear I5);(try clear c12);(try clear Fu);(try clear c13);(try clear YF);(try clear c14);(try clear xE);(try clear Lx);(try clear p2);(try clear p6);(try clear abQ);(try clear abR);obtain ⟨xM,Aw,rfl,HA,HK3,dX,HB⟩:=hrel
       cases gk with
       | zero=>exact absurd HA.out (by simp [bv.l1])
       | succ k3 =>
        have H:=HA.out;clear HA;simp only [bv.l1] at H;replace H:=gF H;obtain ⟨yl,H⟩|⟨yl,H⟩:=H
        ·have H':=zA H;clear H;go_wp2;go_roundg k3;(case measure=>have:=HJ3.out;have:=HK2.out;have:=HK3.out;omega);(case rel=>exact ⟨(xM),(wrap64 (yt + 1)),eS,H',⟨by have:=HJ3.out;have:=HK2.out;have:=HK3.out;omega⟩,⟨uR dX.out⟩,⟨uH HB.out⟩⟩)
        replace H:=gD H;obtain ⟨Bw,H⟩:=H;replace H:=gD H;obtain ⟨XJ,H⟩:=H;obtain ⟨EP,SB⟩ : ∃ j_ : Int,(wrap64 (yt + Aw)) = j_:=⟨_,rfl⟩;(first | rw [SB] at H | simp only [SB] at H);have avg : (IntKind.i64.wrap (yt + Aw)) = EP:=(jW _).trans SB;replace H:=gD H;obtain ⟨vY,H⟩:=H;replace H:=gD H;obtain ⟨R5,H⟩:=H;replace H:=bO H;obtain ⟨Uw,A21,H⟩:=H;obtain ⟨anv,adN⟩:=eY (xM.set ((EP) : Int).toNat Uw : List Int);(try rw [←adN.out] at H);have H':=zA H;clear H;have ahD : 0 ≤ (Aw : Int):=oD;have ahE : Aw < (l2.length : Int):=oD;obtain ⟨axZ,avh,SC⟩:=Kd.ic HR2.out Aw ahD ahE;cases avh;replace SC:=hc HB SC;replace ahD:=eq_true ahD;replace ahE:=eq_true ahE;obtain ⟨atc,aaI,rfl⟩:=Kd.bB dX.out;have ahF : 0 ≤ ((EP) : Int):=oD;have ahG : (EP) < (xM.length : Int):=oD;obtain ⟨anw,avi,abS⟩:=Kd.ic (Kd.aM dX.out).2.2 (EP) ahF ahG;cases avi;replace ahF:=eq_true ahF;replace ahG:=eq_true ahG;go_wp2_with (first | ((with_reducible refine ag (f:=72) rfl ?_);refine zk (some 56) rfl rfl Try.func72 (by kernel_rfl) rfl #[.int .i64 a0,.int .i64 (wrap64 ((rd xM (EP)) + (wrap64 ((rd l1 yt) * (rd l2 Aw)))))] rfl (by (try simp only [la,lb,lc]);first | done | (simp only [SB];rfl) | rfl | (simp only [ld,le];rfl)) ?_;(with_reducible refine (fq.calls a0 (wrap64 ((rd xM (EP)) + (wrap64 ((rd l1 yt) * (rd l2 Aw))))) Uw _ A21.out).mono ?_);rintro e w' ⟨rfl,⟨nd,rfl⟩⟩;refine ⟨_,rfl,?_⟩;(try (rw [vw wr];generalize hq_ : World.drewN wr _ = wr;have n0_ : aa (Kd.R (Kd.int .i64) 2 wr w.heap.size (fun _=>True) (.slice (some anw) xM.length aaI) xM):=⟨by rw [← hq_];exact (uR dX.out)⟩;have n1_ : aa (Below w.heap.size w wr):=⟨by rw [← hq_];exact (uH HB.out)⟩;clear dX HB hq_;have dX:=n0_;have HB:=n1_;clear n0_ n1_));have p22 : 0 ≤ ((EP) : Int):=of_decide_eq_true (by first | (with_reducible assumption) | assumption);have q22 : ((EP) : Int) < ((xM.length : Int) : Int):=of_decide_eq_true (by first | (with_reducible assumption) | assumption);obtain ⟨ahH,wU,YQ,anx,avj,az6,anz⟩:=Kd.yB dX.out (by omega);(first | cases YQ | (injection YQ with ea_ en_ ec_;(first | subst ea_ | (injection ea_ with ea_;subst ea_));subst ec_;clear en_));have anA:=zA anx;have:=geI anA;have az7:=zA anz;clear anx avj anz;(first | simp only [add_plain] at abS | skip);obtain ⟨avk,avl⟩:=Kd.uj 0 dX.out ((EP) : Int) p22 q22;replace p22:=eq_true p22;replace q22:=eq_true q22;obtain ⟨ax0,ax1⟩:=Kd.uj 0 dX.out ((EP) : Int) (of_decide_eq_true (by first | (with_reducible assumption) | assumption)) (of_decide_eq_true (by first | (with_reducible assumption) | assumption));have ahI:=Kd.GU dX.out ((EP) : Int) Uw) | ((with_reducible refine qB (t:=2) (p:=57) rfl ?_);refine pq (t:=2) (p:=57) (v:=?avm) (w1:=(wr.setCell ⟨ahH,((EP) : Int).toNat,none⟩ (.int .i64 Uw))) ?hg ?ho ?hn ?hr ?_;(case ho=>rfl);(case hg=>rfl);(case hn=>rfl);(case hr=>first | (go_simp;done) | (go_simp;rfl));intro w25 hw;have hg : wr.grownBy w25 (some ahH):=(by rw [hw];exact ahI.2);have hp_ : Kd.R (Kd.int .i64) 2 w25 w.heap.size (fun _=>True) (.slice (some ⟨ahH,0,none⟩) xM.length aaI) anv:=(by rw [hw,adN.out];exact ahI.1);clear ahI;replace dX:=zA (hp_);replace HB:=zA ((by rw [hw];exact lC (HB.out) anA.out : Below w.heap.size w w25));clear hg hw hp_));go_roundg k3;(case measure=>have:=HJ3.out;have:=HK2.out;have:=HK3.out;omega);(case rel=>exact ⟨(anv),(wrap64 (Aw + 1)),eS,H',⟨by have:=HJ3.out;have:=HK2.out;have:=HK3.out;omega⟩,⟨uR dX.out⟩,⟨uH HB.out⟩⟩)
/-! ### l8: function 89 -/
def l8.f (k : Nat) (a0 : Int) (a1 : Int) (a2 : Int) (l3 : List Int) (l4 : List Int) : Option (List Int):=(fq.f a0 (wrap64 (-a1))).bind fun Od=>((bv.f k a0 (([Od,1] : List Int)) l3).bind fun YR=>((fq.f a0 (wrap64 (-a2))).bind fun YS=>((fV.f k a0 YR l4 YS).bind fun ahJ=>(some ahJ))))
theorem l8.calls (k : Nat) (a0 : Int) (a1 : Int) (a2 : Int) (A3 : Option Addr) (c3 : Nat) (l3 : List Int) (A4 : Option Addr) (c4 : Nat) (l4 : List Int) (r : List Int) (w : World) (hr3 : Kd.C (Kd.int .i64) w A3 l3.length l3) (hc3 : l3.length ≤ c3) (hr4 : Kd.C (Kd.int .i64) w A4 l4.length l4) (hc4 : l4.length ≤ c4) (H : l8.f k a0 a1 a2 l3 l4 = some r) :
  Calls Try.prog 89 #[.int .i64 a0,.int .i64 a1,.int .i64 a2,.slice A3 l3.length c3,.slice A4 l4.length c4] w fun e w'=>∃ v0_ : Value,e = .returned (v0_)∧Kd.R (Kd.int .i64) 2 w' w.heap.size (fun _=>True) v0_ r∧Below w.heap.size w w':=by
 have HR3:=zA hr3;have HC3:=zA hc3;clear hr3 hc3;have HR4:=zA hr4;have HC4:=zA hc4;clear hr4 hc4;have HB:=zA (Below.refl w.heap.size w);unfold l8.f at H;replace H:=bO H;obtain ⟨Od,A6,H⟩:=H;obtain ⟨anB,YT⟩:=eY ([Od,1] : List Int);(try rw [←YT.out] at H);replace H:=bO H;obtain ⟨YR,A7,H⟩:=H;replace H:=bO H;obtain ⟨YS,A8,H⟩:=H;replace H:=bO H;obtain ⟨ahJ,A9,H⟩:=H;obtain rfl:=Option.some.inj H;go_enter Try.func89,Try.ntmps89;go_wp2_with (first | ((with_reducible refine ag (f:=72) rfl ?_);refine gL (some 16) Try.func72 #[.int .i64 a0,.int .i64 (wrap64 (-a1))] ?_;(with_reducible refine (fq.calls a0 (wrap64 (-a1)) Od _ A6.out).mono ?_);rintro e w' ⟨rfl,⟨nd,rfl⟩⟩;refine ⟨_,rfl,?_⟩) | ((with_reducible refine aT (N:=17) rfl ?_);refine Kd.mX (Kd.int .i64) _ 2 ?hg (N:=17) ?hd (xs:=([Od,1] : List Int)) (inner:=[.int .i64 Od,.int .i64 1]) (ok:=fun _=>True) (okp:=fun _=>True) ?hr ?hp (fun _ hk=>hk) trivial (Below.refl _ _) (Nat.le_refl _) (by simp) ?_;(case hd=>rfl);(case hg=>rfl);(case hr=>first | (go_simp;done) | (go_simp;rfl));(case hp=>exact (cB.one (show Kd.M (Kd.int .i64) _ _ _ Od [.int .i64 Od] from rfl) (cB.one (show Kd.M (Kd.int .i64) _ _ _ 1 [.int .i64 1] from rfl) (cB.none _ _))));intro az8 w10 wV hb hg_ hnew_;clear hg_ hnew_;(first | rw [← YT.out] at wV | (simp only [Int.reduceToNat] at wV;rw [← YT.out] at wV));have DX:=zA (Kd.aX wV (af (uH HB.out)));replace HB:=xH HB hb;clear hb wV;obtain ⟨O4,O5,O6⟩:=Kd.bB DX.out;subst O6) | ((with_reducible refine ag (f:=87) rfl ?_);refine gL (some 19) Try.func87 #[.int .i64 a0,.slice O4 anB.length O5,.slice A3 l3.length c3] ?_;(with_reducible refine (bv.calls k a0 _ _ anB _ _ l3 YR _ ?side1 ?side2 ?side3 ?side4 A7.out).mono ?_);(case side1=>exact uC ((Kd.aM DX.out).2.2));(case side2=>exact (Kd.aM DX.out).2.1);(case side3=>exact uC ((Kd.aW HR3.out HB.out)));(case side4=>exact HC3.out);rintro e w13 ⟨az9,rfl,ho0,hb⟩;refine ⟨_,rfl,?_⟩;have JR:=zA (Kd.aX (nw ho0 (uR DX.out)) (af (uH HB.out)));replace DX:=zA (Kd.aJ (uR DX.out) (Kd.aG ho0) hb);replace HB:=xH HB hb;(try clear hb);(try clear hk);(try clear ho0)) | ((with_reducible refine ag (f:=72) rfl ?_);refine gL (some 24) Try.func72 #[.int .i64 a0,.int .i64 (wrap64 (-a2))] ?_;(with_reducible refine (fq.calls a0 (wrap64 (-a2)) YS _ A8.out).mono ?_);rintro e w' ⟨rfl,⟨nd,rfl⟩⟩;refine ⟨_,rfl,?_⟩;obtain ⟨kL,kM,GZ⟩:=Kd.bB JR.out;subst GZ) | ((with_reducible refine ag (f:=56) rfl ?_);refine gL (some 25) Try.func56 #[.int .i64 a0,.slice kL YR.length kM,.slice A4 l4.length c4,.int .i64 YS] ?_;(with_reducible refine (fV.calls k a0 _ _ YR _ _ l4 YS ahJ _ ?side1 ?side2 ?side3 ?side4 A9.out).mono ?_);(case side1=>exact uC ((Kd.aM JR.out).2.2));(case side2=>exact (Kd.aM JR.out).2.1);(case side3=>repeat (first | exact (Kd.aW HR4.out (uH HB.out)) | (with_reducible refine Kd.dU ?_ _) | (with_reducible refine Kd.dV ?_ _) | (with_reducible refine Kd.fK ?_)));(case side4=>exact HC4.out);rintro e w15 ⟨aAa,rfl,ho0,hb⟩;refine ⟨_,rfl,?_⟩;have anC:=zA (Kd.aX (nw (nw ho0 (uR DX.out)) (uR JR.out)) (af (uH HB.out)));replace DX:=zA (Kd.aJ (uR DX.out) (Kd.aG ho0) hb);replace JR:=zA (Kd.aJ (uR JR.out) (Kd.aG ho0) hb);replace HB:=xH HB hb;(try clear hb);(try clear hk);(try clear ho0)));go_ret;exact ⟨_,eX,uR (Kd.ah anC.out (fun _ hk=>trivial)),uH HB.out⟩
/-! ### iR: function 70 -/
def iR.l0 : Nat → Int → List (List Int) → List Int → List Int → Int → Int → Option (List Int)
 | 0,_,_,_,_,_,_=>none
 | k + 1,x0,x2,x7,x10,x11,x12=>if x12 < x11 then (if 0 ≤ x12 then (if x12 < (x10.length : Int) then (if x12 < (x2.length : Int) then ((fV.f k x0 x7 (gW x2 x12) (rd x10 x12)).bind fun SE=>(iR.l0 k x0 x2 SE x10 x11 (wrap64 (x12 + 1)))) else (none)) else (none)) else (none)) else (some x7)
def iR.f (k : Nat) (a0 : Int) (l1 : List Int) (l2 : List (List Int)) : Option (List Int):=iR.l0 k a0 l2 ([] : List Int) l1 (l1.length : Int) 0
theorem iR.calls (k : Nat) (a0 : Int) (A1 : Option Addr) (c1 : Nat) (l1 : List Int) (A2 : Option Addr) (c2 : Nat) (l2 : List (List Int)) (r : List Int) (w : World) (hr1 : Kd.C (Kd.int .i64) w A1 l1.length l1) (hc1 : l1.length ≤ c1) (hr2 : Kd.C (Kd.slice 2 (Kd.int .i64)) w A2 l2.length l2) (hc2 : l2.length ≤ c2) (H : iR.f k a0 l1 l2 = some r) :
  Calls Try.prog 70 #[.int .i64 a0,.slice A1 l1.length c1,.slice A2 l2.length c2] w fun e w'=>∃ v0_ : Value,e = .returned (v0_)∧Kd.R (Kd.int .i64) 2 w' w.heap.size (fun _=>True) v0_ r∧Below w.heap.size w w':=by
 have HR1:=zA hr1;have HC1:=zA hc1;clear hr1 hc1;have HR2:=zA hr2;have HC2:=zA hc2;clear hr2 hc2;have HB:=zA (Below.refl w.heap.size w);unfold iR.f at H;have H':=zA H;clear H;go_enter Try.func70,Try.ntmps70;go_wp2;go_loopg [7,12] k (fun kq v7 v12 w'=>∃ (kg : List Int) (yu : Int),v12 = .int .i64 yu∧aa (iR.l0 kq a0 l2 kg l1 (l1.length : Int) yu = some r)∧aa (kq ≤ k)∧aa (Kd.R (Kd.int .i64) 2 w' w.heap.size (fun _=>True) v7 kg)∧aa (Below w.heap.size w w'));(case atStart=>exact ⟨(([] : List Int)),(0),eS,H',⟨Nat.le_refl _⟩,⟨by first | exact Kd.nE _ _ _ _ _ | exact Kd.wH _ _ _ _ _ | exact Kd.qz _ _ _ _ _ | exact Kd.rq _ _ _ _ _ | exact Kd.ru _ _ _ _ _⟩,⟨uH HB.out⟩⟩)
 case round =>
  clear H';(try clear c1);(try clear c2);(try clear p2);obtain ⟨kg,yu,rfl,HA,HK1,dX,HB⟩:=hrel
  cases gk with
  | zero=>exact absurd HA.out (by simp [iR.l0])
  | succ k1 =>
   have H:=HA.out;clear HA;simp only [iR.l0] at H;replace H:=gF H;obtain ⟨pQ,H⟩|⟨pQ,H⟩:=H
   ·obtain rfl:=Option.some.inj H;go_wp2;go_ret;exact ⟨_,eX,uR dX.out,uH HB.out⟩
   replace H:=gD H;obtain ⟨mq,H⟩:=H;replace H:=gD H;obtain ⟨oP,H⟩:=H;replace H:=gD H;obtain ⟨Bl,H⟩:=H;replace H:=bO H;obtain ⟨SE,A8,H⟩:=H;have H':=zA H;clear H;have YU : 0 ≤ (yu : Int):=oD;have YV : yu < (l1.length : Int):=oD;obtain ⟨avn,anD,Oe⟩:=Kd.ic HR1.out yu YU YV;cases anD;replace Oe:=hc HB Oe;replace YU:=eq_true YU;replace YV:=eq_true YV;have YW : 0 ≤ (yu : Int):=oD;have YX : yu < (l2.length : Int):=oD;obtain ⟨avo,abT,abU,anE,Og,Oh,Oi⟩:=Ao HR2.out yu YW YX;cases anE;replace Og:=hc HB Og;have YY:=zA Oi;have YZ:=zA Oh;clear Oi Oh;replace YW:=eq_true YW;replace YX:=eq_true YX;obtain ⟨Ao9,co9,rfl⟩:=Kd.bB dX.out;go_wp2_with (first | ((with_reducible refine ag (f:=56) rfl ?_);refine gL (some 24) Try.func56 #[.int .i64 a0,.slice Ao9 kg.length co9,.slice abT (gW l2 yu).length abU,.int .i64 (rd l1 yu)] ?_;(with_reducible refine (fV.calls k1 a0 _ _ kg _ _ (gW l2 yu) (rd l1 yu) SE _ ?side1 ?side2 ?side3 ?side4 A8.out).mono ?_);(case side1=>exact uC ((Kd.aM dX.out).2.2));(case side2=>exact (Kd.aM dX.out).2.1);(case side3=>exact uC ((Kd.aW YY.out HB.out)));(case side4=>exact YZ.out);rintro e w10 ⟨ax2,rfl,ho0,hb⟩;refine ⟨_,rfl,?_⟩;have ahK:=zA (Kd.aX (nw ho0 (uR dX.out)) (af (uH HB.out)));replace dX:=zA (Kd.aJ (uR dX.out) (Kd.aG ho0) hb);replace HB:=xH HB hb;(try clear hb);(try clear ho0)));go_roundg k1;(case measure=>have:=HK1.out;omega);(case rel=>exact ⟨(SE),(wrap64 (yu + 1)),eS,H',⟨by have:=HK1.out;omega⟩,⟨uR (Kd.ah ahK.out (fun _ hk=>trivial))⟩,⟨uH HB.out⟩⟩)
/-! ### l7: function 37 -/
def l7.f (a0 : Int) (a1 : Int) (a2 : Int) : Option (Bool):=if a1 ≤ a0 then (some (decide (a0 ≤ a2))) else (some false)
theorem l7.calls (a0 : Int) (a1 : Int) (a2 : Int) (r : Bool) (w : World) (H : l7.f a0 a1 a2 = some r) :
  Calls Try.prog 37 #[.int .i64 a0,.int .i64 a1,.int .i64 a2] w fun e w'=>e = .returned (.bool r)∧bA w w':=by
 unfold l7.f at H;replace H:=gF H;obtain ⟨pQ,H⟩|⟨pQ,H⟩:=H
 ·obtain rfl:=Option.some.inj H;go_enter Try.func37,Try.ntmps37;go_wp2;go_ret;exact ⟨by first | rfl | (simp;done) | (simp [*];done),by repeat (first | exact bA.refl _ | apply bA.step)⟩
 obtain rfl:=Option.some.inj H;go_enter Try.func37,Try.ntmps37;go_wp2;go_ret;exact ⟨by first | rfl | (simp;done) | (simp [*];done),by repeat (first | exact bA.refl _ | apply bA.step)⟩
/-! ### iA: function 36 -/
def iA.l0 : Nat → Int → Int → Option (Bool)
 | 0,_,_=>none
 | k + 1,x0,x3=>if (wrap64 (x3 * x3)) ≤ x0 then (if x3 = 0 then (none) else (if (Int.tmod x0 x3) = 0 then (some false) else (iA.l0 k x0 (wrap64 (x3 + 1))))) else (some true)
def iA.f (k : Nat) (a0 : Int) : Option (Bool):=(l7.f a0 2 10007).bind fun anF=>(if anF = true then (iA.l0 k a0 2) else (some false))
theorem iA.calls (k : Nat) (a0 : Int) (r : Bool) (w : World) (H : iA.f k a0 = some r) :
  Calls Try.prog 36 #[.int .i64 a0] w fun e w'=>e = .returned (.bool r)∧bA w w':=by
 unfold iA.f at H;replace H:=bO H;obtain ⟨anF,A2,H⟩:=H;replace H:=gB H;obtain ⟨rfl,H⟩|⟨rfl,H⟩:=H
 ·have H':=zA H;clear H;go_enter Try.func36,Try.ntmps36;go_wp2_with (first | ((with_reducible refine ag (f:=37) rfl ?_);refine gL (some 5) Try.func37 #[.int .i64 a0,.int .i64 2,.int .i64 10007] ?_;(with_reducible refine (l7.calls a0 2 10007 true _ A2.out).mono ?_);rintro e w' ⟨rfl,⟨nd,rfl⟩⟩;refine ⟨_,rfl,?_⟩));go_loopg [3] k (fun kq v3 w'=>∃ (lv : Int),v3 = .int .i64 lv∧aa (iA.l0 kq a0 lv = some r)∧aa (kq ≤ k)∧bA w w');(case atStart=>exact ⟨(2),eS,H',⟨Nat.le_refl _⟩,by repeat (first | exact bA.refl _ | apply bA.step)⟩)
  case round =>
   clear H';(try clear p2);(try clear c3);obtain ⟨lv,rfl,HA,HK1,⟨m1,rfl⟩⟩:=hrel
   cases gk with
   | zero=>exact absurd HA.out (by simp [iA.l0])
   | succ k1 =>
    have H:=HA.out;clear HA;simp only [iA.l0] at H;replace H:=gF H;obtain ⟨pQ,H⟩|⟨pQ,H⟩:=H
    ·obtain rfl:=Option.some.inj H;go_wp2;go_ret;exact ⟨by first | rfl | (simp;done) | (simp [*];done),by repeat (first | exact bA.refl _ | apply bA.step)⟩
    replace H:=gI H;obtain ⟨c5,H⟩|⟨c5,H⟩:=H
    ·have mq : (lv == 0) = false:=beq_eq_false_iff_ne.mpr c5;have uP : (lv != 0) = true:=bne_iff_ne.mpr c5;replace H:=gE H;obtain ⟨c6,oP,uE,H⟩|⟨c6,oP,uE,H⟩:=H
     ·have H':=zA H;clear H;go_wp2;go_roundg k1;(case measure=>have:=HK1.out;omega);(case rel=>exact ⟨(wrap64 (lv + 1)),eS,H',⟨by have:=HK1.out;omega⟩,by repeat (first | exact bA.refl _ | apply bA.step)⟩)
     clear c6;obtain rfl:=Option.some.inj H;go_wp2;go_ret;exact ⟨by first | rfl | (simp;done) | (simp [*];done),by repeat (first | exact bA.refl _ | apply bA.step)⟩
    exact absurd H (by simp)
 ·obtain rfl:=Option.some.inj H;go_enter Try.func36,Try.ntmps36;go_wp2_with (first | ((with_reducible refine ag (f:=37) rfl ?_);refine gL (some 5) Try.func37 #[.int .i64 a0,.int .i64 2,.int .i64 10007] ?_;(with_reducible refine (l7.calls a0 2 10007 false _ A2.out).mono ?_);rintro e w' ⟨rfl,⟨nd,rfl⟩⟩;refine ⟨_,rfl,?_⟩));go_ret;exact ⟨by first | rfl | (simp;done) | (simp [*];done),by repeat (first | exact bA.refl _ | apply bA.step)⟩
/-! ### fw: function 25 -/
def fw.l0 : Nat → List Int → List Int → Int → Option (Bool)
 | 0,_,_,_=>none
 | k + 1,x0,x1,x5=>if x5 < (x0.length : Int) then (if 0 ≤ x5 then (if x5 < (x1.length : Int) then (if (rd x0 x5) = (rd x1 x5) then (fw.l0 k x0 x1 (wrap64 (x5 + 1))) else (some false)) else (none)) else (none)) else (some true)
def fw.f (k : Nat) (l0 : List Int) (l1 : List Int) : Option (Bool):=if (l0.length : Int) = (l1.length : Int) then (fw.l0 k l0 l1 0) else (some false)
theorem fw.calls (k : Nat) (A0 : Option Addr) (c0 : Nat) (l0 : List Int) (A1 : Option Addr) (c1 : Nat) (l1 : List Int) (r : Bool) (w : World) (hr0 : Kd.C (Kd.int .i64) w A0 l0.length l0) (hc0 : l0.length ≤ c0) (hr1 : Kd.C (Kd.int .i64) w A1 l1.length l1) (hc1 : l1.length ≤ c1) (H : fw.f k l0 l1 = some r) :
  Calls Try.prog 25 #[.slice A0 l0.length c0,.slice A1 l1.length c1] w fun e w'=>e = .returned (.bool r)∧bA w w':=by
 have HR0:=zA hr0;have HC0:=zA hc0;clear hr0 hc0;have HR1:=zA hr1;have HC1:=zA hc1;clear hr1 hc1;unfold fw.f at H;replace H:=gE H;obtain ⟨c3,rH,FD,H⟩|⟨c3,rH,FD,H⟩:=H
 ·(have anG : (l0.length == l1.length) = false:=by first | simpa using c3 | (simp at c3 ⊢;omega));obtain rfl:=Option.some.inj H;go_enter Try.func25,Try.ntmps25;go_wp2;(repeat (go_quiet (fail);try go_wp2));go_ret;exact ⟨by first | rfl | (simp;done) | (simp [*];done),by repeat (first | exact bA.refl _ | apply bA.step)⟩
 (have anG : (l0.length == l1.length) = true:=by first | simpa using c3 | (simp at c3 ⊢;omega));clear c3;have H':=zA H;clear H;go_enter Try.func25,Try.ntmps25;go_wp2;(repeat (go_quiet (fail);try go_wp2));go_loopg [5] k (fun kq v5 w'=>∃ (gV : Int),v5 = .int .i64 gV∧aa (fw.l0 kq l0 l1 gV = some r)∧aa (kq ≤ k)∧bA w w');(case atStart=>exact ⟨(0),eS,H',⟨Nat.le_refl _⟩,by repeat (first | exact bA.refl _ | apply bA.step)⟩)
 case round =>
  clear H';(try clear c1);(try clear c2);(try clear p2);(try clear c3);(try clear rH);(try clear FD);(try clear anG);obtain ⟨gV,rfl,HA,HK1,⟨m1,rfl⟩⟩:=hrel
  cases gk with
  | zero=>exact absurd HA.out (by simp [fw.l0])
  | succ k1 =>
   have H:=HA.out;clear HA;simp only [fw.l0] at H;replace H:=gF H;obtain ⟨pQ,H⟩|⟨pQ,H⟩:=H
   ·obtain rfl:=Option.some.inj H;go_wp2;(repeat (go_quiet (fail);try go_wp2));go_ret;exact ⟨by first | rfl | (simp;done) | (simp [*];done),by repeat (first | exact bA.refl _ | apply bA.step)⟩
   replace H:=gD H;obtain ⟨mq,H⟩:=H;replace H:=gD H;obtain ⟨oP,H⟩:=H;replace H:=gE H;obtain ⟨c7,Bl,EE,H⟩|⟨c7,Bl,EE,H⟩:=H
   ·obtain rfl:=Option.some.inj H;have Qk : 0 ≤ (gV : Int):=oD;have Ql : gV < (l0.length : Int):=oD;obtain ⟨anH,ahL,abV⟩:=Kd.ic HR0.out gV Qk Ql;cases ahL;replace Qk:=eq_true Qk;replace Ql:=eq_true Ql;have Qm : 0 ≤ (gV : Int):=oD;have Qn : gV < (l1.length : Int):=oD;obtain ⟨anI,ahM,abW⟩:=Kd.ic HR1.out gV Qm Qn;cases ahM;replace Qm:=eq_true Qm;replace Qn:=eq_true Qn;go_wp2;(repeat (go_quiet (fail);try go_wp2));go_ret;exact ⟨by first | rfl | (simp;done) | (simp [*];done),by repeat (first | exact bA.refl _ | apply bA.step)⟩
   clear c7;have H':=zA H;clear H;have Qk : 0 ≤ (gV : Int):=oD;have Ql : gV < (l0.length : Int):=oD;obtain ⟨anH,ahL,abV⟩:=Kd.ic HR0.out gV Qk Ql;cases ahL;replace Qk:=eq_true Qk;replace Ql:=eq_true Ql;have Qm : 0 ≤ (gV : Int):=oD;have Qn : gV < (l1.length : Int):=oD;obtain ⟨anI,ahM,abW⟩:=Kd.ic HR1.out gV Qm Qn;cases ahM;replace Qm:=eq_true Qm;replace Qn:=eq_true Qn;go_wp2;(repeat (go_quiet (fail);try go_wp2));go_roundg k1;(case measure=>have:=HK1.out;omega);(case rel=>exact ⟨(wrap64 (gV + 1)),eS,H',⟨by have:=HK1.out;omega⟩,by repeat (first | exact bA.refl _ | apply bA.step)⟩)
/-! ### vO: function 14 -/
def vO.f (k : Nat) (aH : Int) (aD : List Int) (jy : Int) (kN : List Int) : Option (Bool):=if aH = jy then ((fw.f k aD kN).bind fun ahN=>(some ahN)) else (some false)
theorem vO.calls (k : Nat) (aH : Int) (bM : Option Addr) (bJ : Nat) (aD : List Int) (jy : Int) (Lf : Option Addr) (Lg : Nat) (kN : List Int) (r : Bool) (w : World) (hr0_1 : Kd.C (Kd.int .i64) w bM aD.length aD) (jE : aD.length ≤ bJ) (hr1_1 : Kd.C (Kd.int .i64) w Lf kN.length kN) (NS : kN.length ≤ Lg) (H : vO.f k aH aD jy kN = some r) :
  Calls Try.prog 14 #[.agg #[.int .i64 aH,.slice bM aD.length bJ],.agg #[.int .i64 jy,.slice Lf kN.length Lg]] w fun e w'=>e = .returned (.bool r)∧Below w.heap.size w w':=by
 have uD:=Try.underlying26;have fP:=zA hr0_1;have gG:=zA jE;clear hr0_1 jE;have Ya:=zA hr1_1;have Yb:=zA NS;clear hr1_1 NS;have HB:=zA (Below.refl w.heap.size w);unfold vO.f at H;replace H:=gE H;obtain ⟨c3,rH,FD,H⟩|⟨c3,rH,FD,H⟩:=H
 ·obtain rfl:=Option.some.inj H;go_enter Try.func14,Try.ntmps14;go_wp2_with (first | ((with_reducible refine aT (N:=2) rfl ?_);refine bx 2 #[.int .i64 aH,.slice bM aD.length bJ] 26 ?_;intro Oj hg w10 hbox hb;have ww:=zA (hbox);have Y0:=gq HB hg;have:=geI Y0;have Y1:=gq HB hg;replace HB:=xH HB hb;have:=geI Y1;clear hb hbox hg) | ((with_reducible refine aT (N:=3) rfl ?_);refine bx 3 #[.int .i64 jy,.slice Lf kN.length Lg] 26 ?_;intro Ol hg w11 hbox hb;have DY:=zA (hbox);have Y2:=gq HB hg;have:=geI Y2;have Y3:=gq HB hg;replace HB:=xH HB hb;have EQ:=zA ((by rw [hg];exact neL ww : Oj ≠ Ol));have ER:=zA ((by rw [hg];exact neG ww : Ol ≠ Oj));replace ww:=xB ww hb;have:=geI Y3;clear hb hbox hg;have Vh:=EQ.out;have Vi:=ER.out;have qR:=bc ww 0;have qU:=bc ww 1;have qV:=bf ww 0;have qW:=bf ww 1;have Rv:=bc DY 0;have Rw:=bc DY 1;have Rx:=bf DY 0;have Ry:=bf DY 1));go_ret;exact ⟨eX,uH HB.out⟩
 clear c3;replace H:=bO H;obtain ⟨ahN,A4,H⟩:=H;obtain rfl:=Option.some.inj H;go_enter Try.func14,Try.ntmps14;go_wp2_with (first | ((with_reducible refine aT (N:=2) rfl ?_);refine bx 2 #[.int .i64 aH,.slice bM aD.length bJ] 26 ?_;intro Oj hg w5 hbox hb;have ww:=zA (hbox);have Y0:=gq HB hg;have:=geI Y0;have Y1:=gq HB hg;replace HB:=xH HB hb;have:=geI Y1;clear hb hbox hg) | ((with_reducible refine aT (N:=3) rfl ?_);refine bx 3 #[.int .i64 jy,.slice Lf kN.length Lg] 26 ?_;intro Ol hg w6 hbox hb;have DY:=zA (hbox);have Y2:=gq HB hg;have:=geI Y2;have Y3:=gq HB hg;replace HB:=xH HB hb;have EQ:=zA ((by rw [hg];exact neL ww : Oj ≠ Ol));have ER:=zA ((by rw [hg];exact neG ww : Ol ≠ Oj));replace ww:=xB ww hb;have:=geI Y3;clear hb hbox hg;have aAb:=EQ.out;have aAc:=ER.out;have BX:=bc ww 0;have BZ:=bc ww 1;have Ca:=bf ww 0;have Cb:=bf ww 1;have y8:=bc DY 0;have y9:=bc DY 1;have zZ:=bf DY 0;have za:=bf DY 1) | (go_at_call 25;(with_reducible refine (fw.calls k _ _ aD _ _ kN ahN _ ?side1 ?side2 ?side3 ?side4 A4.out).mono ?_);(case side1=>exact uC ((Kd.aW fP.out HB.out)));(case side2=>exact gG.out);(case side3=>exact uC ((Kd.aW Ya.out HB.out)));(case side4=>exact Yb.out);rintro e w' ⟨rfl,⟨nd,rfl⟩⟩));go_ret;exact ⟨eX,uH HB.out⟩
/-! ### dN: function 93 -/
def dN.l0 : Nat → List Int → (Int → Option Bool) → Int → Int → Option (Int)
 | 0,_,_,_,_=>none
 | k + 1,x0,x1,x7,x8=>if x8 < x7 then (if 0 ≤ x8 then (if x8 < (x0.length : Int) then ((x1 (rd x0 x8)).bind fun anJ=>(if anJ = true then (some x8) else (dN.l0 k x0 x1 x7 (wrap64 (x8 + 1))))) else (none)) else (none)) else (some (-1))
def dN.f (k : Nat) (l0 : List Int) (a1 : (Int → Option Bool)) : Option (Int):=dN.l0 k l0 a1 (l0.length : Int) 0
theorem dN.calls (k : Nat) (A0 : Option Addr) (c0 : Nat) (l0 : List Int) (F1 : Value) (a1 : (Int → Option Bool)) (r : Int) (w : World) (hr0 : Kd.C (Kd.int .i64) w A0 l0.length l0) (hc0 : l0.length ≤ c0) (hF1 : FnI Try.prog w F1 a1) (H : dN.f k l0 a1 = some r) :
  Calls Try.prog 93 #[.slice A0 l0.length c0,F1] w fun e w'=>e = .returned (.int .i64 r)∧Below w.heap.size w w':=by
 have HR0:=zA hr0;have HC0:=zA hc0;clear hr0 hc0;obtain ⟨G1,fi1,ca1,rfl,uJ,hF1⟩:=hF1;have uJ : ∀ (args_ : Array Value) (w_ : World),(callFunc G1 args_).run Try.prog w_ = .ok (.enter G1 args_) w_:=uJ;have HF1:=zA hF1;clear hF1;have HB:=zA (Below.refl w.heap.size w);unfold dN.f at H;have H':=zA H;clear H;go_enter Try.func93,Try.ntmps93;go_wp2;go_loopg [8] k (fun kq v8 w'=>∃ (dM : Int),v8 = .int .i64 dM∧aa (dN.l0 kq l0 a1 (l0.length : Int) dM = some r)∧aa (kq ≤ k)∧aa (Below w.heap.size w w'));(case atStart=>exact ⟨(0),eS,H',⟨Nat.le_refl _⟩,⟨uH HB.out⟩⟩)
 case round =>
  clear H';(try clear p2);obtain ⟨dM,rfl,HA,HK1,HB⟩:=hrel
  cases gk with
  | zero=>exact absurd HA.out (by simp [dN.l0])
  | succ k1 =>
   have H:=HA.out;clear HA;simp only [dN.l0] at H;replace H:=gF H;obtain ⟨rH,H⟩|⟨rH,H⟩:=H
   ·obtain rfl:=Option.some.inj H;go_wp2;go_ret;exact ⟨eX,uH HB.out⟩
   replace H:=gD H;obtain ⟨pQ,H⟩:=H;replace H:=gD H;obtain ⟨mq,H⟩:=H;replace H:=bO H;obtain ⟨anJ,A6,H⟩:=H;replace H:=gB H;obtain ⟨rfl,H⟩|⟨rfl,H⟩:=H
   ·obtain rfl:=Option.some.inj H;have Qo : 0 ≤ (dM : Int):=oD;have Qp : dM < (l0.length : Int):=oD;obtain ⟨anK,ahO,DZ⟩:=Kd.ic HR0.out dM Qo Qp;cases ahO;replace DZ:=hc HB DZ;replace Qo:=eq_true Qo;replace Qp:=eq_true Qp;go_wp2_with (first | (go_at_fn G1;refine dR (args':=fi1 ++ #[.int .i64 (rd l0 dM)] ++ ca1) (by simp) ?_;refine (HF1.out (rd l0 dM) _ A6.out _ (uH HB.out)).mono ?_;rintro e w8 ⟨rfl,hb⟩;replace HB:=xH HB hb;(try clear hb)));go_ret;exact ⟨eX,uH HB.out⟩
   ·have H':=zA H;clear H;have Qo : 0 ≤ (dM : Int):=oD;have Qp : dM < (l0.length : Int):=oD;obtain ⟨anK,ahO,DZ⟩:=Kd.ic HR0.out dM Qo Qp;cases ahO;replace DZ:=hc HB DZ;replace Qo:=eq_true Qo;replace Qp:=eq_true Qp;go_wp2_with (first | (go_at_fn G1;refine dR (args':=fi1 ++ #[.int .i64 (rd l0 dM)] ++ ca1) (by simp) ?_;refine (HF1.out (rd l0 dM) _ A6.out _ (uH HB.out)).mono ?_;rintro e w9 ⟨rfl,hb⟩;replace HB:=xH HB hb;(try clear hb)));go_roundg k1;(case measure=>have:=HK1.out;omega);(case rel=>exact ⟨(wrap64 (dM + 1)),eS,H',⟨by have:=HK1.out;omega⟩,⟨uH HB.out⟩⟩)
/-! ### jG: function 73 -/
def jG.f (k : Nat) (l0 : List Int) (a1 : (Int → Option Bool)) : Option (Bool):=(dN.f k l0 a1).bind fun ahP=>(some (decide (ahP ≥ 0)))
theorem jG.calls (k : Nat) (A0 : Option Addr) (c0 : Nat) (l0 : List Int) (F1 : Value) (a1 : (Int → Option Bool)) (r : Bool) (w : World) (hr0 : Kd.C (Kd.int .i64) w A0 l0.length l0) (hc0 : l0.length ≤ c0) (hF1 : FnI Try.prog w F1 a1) (H : jG.f k l0 a1 = some r) :
  Calls Try.prog 73 #[.slice A0 l0.length c0,F1] w fun e w'=>e = .returned (.bool r)∧Below w.heap.size w w':=by
 have HR0:=zA hr0;have HC0:=zA hc0;clear hr0 hc0;obtain ⟨G1,fi1,ca1,rfl,uJ,hF1⟩:=hF1;have uJ : ∀ (args_ : Array Value) (w_ : World),(callFunc G1 args_).run Try.prog w_ = .ok (.enter G1 args_) w_:=uJ;have HF1:=zA hF1;clear hF1;have HB:=zA (Below.refl w.heap.size w);unfold jG.f at H;replace H:=bO H;obtain ⟨ahP,A3,H⟩:=H;obtain rfl:=Option.some.inj H;go_enter Try.func73,Try.ntmps73;go_wp2_with (first | ((with_reducible refine ag (f:=93) rfl ?_);refine gL (some 7) Try.func93 #[.slice A0 l0.length c0,(.func (.func G1) fi1 ca1)] ?_;(with_reducible refine (dN.calls k _ _ l0 _ a1 ahP _ ?side1 ?side2 ?side3 A3.out).mono ?_);(case side1=>exact uC HR0.out);(case side2=>exact HC0.out);(case side3=>exact FnI.later (uH HB.out) (show FnI Try.prog w (.func (.func G1) fi1 ca1) a1 from ⟨_,_,_,rfl,uJ,HF1.out⟩));rintro e w4 ⟨rfl,hb⟩;refine ⟨_,rfl,?_⟩;replace HB:=xH HB hb;(try clear hb)));go_ret;exact ⟨eX,uH HB.out⟩
/-! ### lw: function 39 -/
def lw.f (k : Nat) (l0 : List Int) (a1 : (Int → Option Bool)) : Option (Bool):=(jG.f k l0 (fun z_=>jv.f z_ a1)).bind fun ahQ=>(some (!ahQ))
theorem lw.calls (k : Nat) (A0 : Option Addr) (c0 : Nat) (l0 : List Int) (F1 : Value) (a1 : (Int → Option Bool)) (r : Bool) (w : World) (hr0 : Kd.C (Kd.int .i64) w A0 l0.length l0) (hc0 : l0.length ≤ c0) (hF1 : FnI Try.prog w F1 a1) (H : lw.f k l0 a1 = some r) :
  Calls Try.prog 39 #[.slice A0 l0.length c0,F1] w fun e w'=>e = .returned (.bool r)∧Below w.heap.size w w':=by
 have hmf : ∀ (fn_ : Fn) (first_ cap_ : Array Value) (w_ : World),(Instr.makeFunc fn_ first_ cap_).run Try.prog w_ = .ok (.func fn_ first_ cap_) w_:=fun _ _ _ _=>rfl;have HR0:=zA hr0;have HC0:=zA hc0;clear hr0 hc0;obtain ⟨G1,fi1,ca1,rfl,uJ,hF1⟩:=hF1;have uJ : ∀ (args_ : Array Value) (w_ : World),(callFunc G1 args_).run Try.prog w_ = .ok (.enter G1 args_) w_:=uJ;have HF1:=zA hF1;clear hF1;have HB:=zA (Below.refl w.heap.size w);unfold lw.f at H;replace H:=bO H;obtain ⟨ahQ,A3,H⟩:=H;obtain rfl:=Option.some.inj H;go_enter Try.func39,Try.ntmps39;go_wp2_with (first | ((with_reducible refine aT (N:=3) rfl ?_);refine bx 3 #[(.func (.func G1) fi1 ca1)] 49 ?_;intro Y4 hg w4 hbox hb;have Y5:=zA (hbox);have anL:=gq HB hg;have:=geI anL;have anM:=gq HB hg;replace HB:=xH HB hb;have:=geI anM;clear hb hbox hg) | ((with_reducible refine ag (f:=73) rfl ?_);refine gL (some 7) Try.func73 #[.slice A0 l0.length c0,(.func (.func 74) #[] #[.pointer (some ⟨Y4,0,none⟩)])] ?_;(with_reducible refine (jG.calls k _ _ l0 _ (fun z_=>jv.f z_ a1) ahQ _ ?side1 ?side2 ?side3 A3.out).mono ?_);(case side1=>exact uC ((Kd.aW HR0.out HB.out)));(case side2=>exact HC0.out);(case side3=>exact FnI.of Try.func74 (by kernel_rfl) rfl (fun z_ r_ hr_ W_ hW_=>dR (args':=#[.int .i64 z_,.pointer (some ⟨Y4,0,none⟩)]) (by simp) ((jv.calls z_ _ _ a1 r_ W_ (dD (g:=Y4) (o:=.cells #[(.func (.func G1) fi1 ca1)] 49 (0,0)) (uB Y5.out) hW_) (FnI.later hW_ (by exact FnI.later (uH HB.out) (show FnI Try.prog w (.func (.func G1) fi1 ca1) a1 from ⟨_,_,_,rfl,uJ,HF1.out⟩))) hr_).mono fun e_ W2_ h_=>⟨h_.1,h_.2⟩)));rintro e w5 ⟨rfl,hb⟩;refine ⟨_,rfl,?_⟩;replace Y5:=xB Y5 hb;replace HB:=xH HB hb;(try clear hb)));go_ret;exact ⟨eX,uH HB.out⟩
/-! ### bP: function 110 -/
def bP.l0 : Nat → List (List Int) → (List Int → Option Bool) → Int → Int → Option (Int)
 | 0,_,_,_,_=>none
 | k + 1,x0,x1,x7,x8=>if x8 < x7 then (if 0 ≤ x8 then (if x8 < (x0.length : Int) then ((x1 (gW x0 x8)).bind fun anN=>(if anN = true then (some x8) else (bP.l0 k x0 x1 x7 (wrap64 (x8 + 1))))) else (none)) else (none)) else (some (-1))
def bP.f (k : Nat) (l0 : List (List Int)) (a1 : (List Int → Option Bool)) : Option (Int):=bP.l0 k l0 a1 (l0.length : Int) 0
theorem bP.calls (k : Nat) (A0 : Option Addr) (c0 : Nat) (l0 : List (List Int)) (F1 : Value) (a1 : (List Int → Option Bool)) (r : Int) (w : World) (hr0 : Kd.C (Kd.slice 2 (Kd.int .i64)) w A0 l0.length l0) (hc0 : l0.length ≤ c0) (hF1 : FnL Try.prog w F1 a1) (H : bP.f k l0 a1 = some r) :
  Calls Try.prog 110 #[.slice A0 l0.length c0,F1] w fun e w'=>e = .returned (.int .i64 r)∧Below w.heap.size w w':=by
 have HR0:=zA hr0;have HC0:=zA hc0;clear hr0 hc0;obtain ⟨G1,fi1,ca1,rfl,uJ,hF1⟩:=hF1;have uJ : ∀ (args_ : Array Value) (w_ : World),(callFunc G1 args_).run Try.prog w_ = .ok (.enter G1 args_) w_:=uJ;have HF1:=zA hF1;clear hF1;have HB:=zA (Below.refl w.heap.size w);unfold bP.f at H;have H':=zA H;clear H;go_enter Try.func110,Try.ntmps110;go_wp2;go_loopg [8] k (fun kq v8 w'=>∃ (dM : Int),v8 = .int .i64 dM∧aa (bP.l0 kq l0 a1 (l0.length : Int) dM = some r)∧aa (kq ≤ k)∧aa (Below w.heap.size w w'));(case atStart=>exact ⟨(0),eS,H',⟨Nat.le_refl _⟩,⟨uH HB.out⟩⟩)
 case round =>
  clear H';(try clear c1);(try clear p2);obtain ⟨dM,rfl,HA,HK1,HB⟩:=hrel
  cases gk with
  | zero=>exact absurd HA.out (by simp [bP.l0])
  | succ k1 =>
   have H:=HA.out;clear HA;simp only [bP.l0] at H;replace H:=gF H;obtain ⟨rH,H⟩|⟨rH,H⟩:=H
   ·obtain rfl:=Option.some.inj H;go_wp2;go_ret;exact ⟨eX,uH HB.out⟩
   replace H:=gD H;obtain ⟨pQ,H⟩:=H;replace H:=gD H;obtain ⟨mq,H⟩:=H;replace H:=bO H;obtain ⟨anN,A6,H⟩:=H;replace H:=gB H;obtain ⟨rfl,H⟩|⟨rfl,H⟩:=H
   ·obtain rfl:=Option.some.inj H;have Qq : 0 ≤ (dM : Int):=oD;have Qr : dM < (l0.length : Int):=oD;obtain ⟨anO,Qs,Qt,ahR,D5,D6,D7⟩:=Ao HR0.out dM Qq Qr;cases ahR;replace D5:=hc HB D5;have LA:=zA D7;have LB:=zA D6;clear D7 D6;replace Qq:=eq_true Qq;replace Qr:=eq_true Qr;go_wp2_with (first | (go_at_fn G1;refine dR (args':=fi1 ++ #[.slice Qs (gW l0 dM).length Qt] ++ ca1) (by simp) ?_;refine (HF1.out (gW l0 dM) _ _ _ A6.out _ (uH HB.out) (by exact uC ((Kd.aW LA.out HB.out))) (by exact LB.out)).mono ?_;rintro e w8 ⟨rfl,hb⟩;replace HB:=xH HB hb;(try clear hb)));go_ret;exact ⟨eX,uH HB.out⟩
   ·have H':=zA H;clear H;have Qq : 0 ≤ (dM : Int):=oD;have Qr : dM < (l0.length : Int):=oD;obtain ⟨anO,Qs,Qt,ahR,D5,D6,D7⟩:=Ao HR0.out dM Qq Qr;cases ahR;replace D5:=hc HB D5;have LA:=zA D7;have LB:=zA D6;clear D7 D6;replace Qq:=eq_true Qq;replace Qr:=eq_true Qr;go_wp2_with (first | (go_at_fn G1;refine dR (args':=fi1 ++ #[.slice Qs (gW l0 dM).length Qt] ++ ca1) (by simp) ?_;refine (HF1.out (gW l0 dM) _ _ _ A6.out _ (uH HB.out) (by exact uC ((Kd.aW LA.out HB.out))) (by exact LB.out)).mono ?_;rintro e w9 ⟨rfl,hb⟩;replace HB:=xH HB hb;(try clear hb)));go_roundg k1;(case measure=>have:=HK1.out;omega);(case rel=>exact ⟨(wrap64 (dM + 1)),eS,H',⟨by have:=HK1.out;omega⟩,⟨uH HB.out⟩⟩)
/-! ### jI: function 98 -/
def jI.f (k : Nat) (l0 : List (List Int)) (a1 : (List Int → Option Bool)) : Option (Bool):=(bP.f k l0 a1).bind fun ahS=>(some (decide (ahS ≥ 0)))
theorem jI.calls (k : Nat) (A0 : Option Addr) (c0 : Nat) (l0 : List (List Int)) (F1 : Value) (a1 : (List Int → Option Bool)) (r : Bool) (w : World) (hr0 : Kd.C (Kd.slice 2 (Kd.int .i64)) w A0 l0.length l0) (hc0 : l0.length ≤ c0) (hF1 : FnL Try.prog w F1 a1) (H : jI.f k l0 a1 = some r) :
  Calls Try.prog 98 #[.slice A0 l0.length c0,F1] w fun e w'=>e = .returned (.bool r)∧Below w.heap.size w w':=by
 have HR0:=zA hr0;have HC0:=zA hc0;clear hr0 hc0;obtain ⟨G1,fi1,ca1,rfl,uJ,hF1⟩:=hF1;have uJ : ∀ (args_ : Array Value) (w_ : World),(callFunc G1 args_).run Try.prog w_ = .ok (.enter G1 args_) w_:=uJ;have HF1:=zA hF1;clear hF1;have HB:=zA (Below.refl w.heap.size w);unfold jI.f at H;replace H:=bO H;obtain ⟨ahS,A3,H⟩:=H;obtain rfl:=Option.some.inj H;go_enter Try.func98,Try.ntmps98;go_wp2_with (first | ((with_reducible refine ag (f:=110) rfl ?_);refine gL (some 7) Try.func110 #[.slice A0 l0.length c0,(.func (.func G1) fi1 ca1)] ?_;(with_reducible refine (bP.calls k _ _ l0 _ a1 ahS _ ?side1 ?side2 ?side3 A3.out).mono ?_);(case side1=>exact uC HR0.out);(case side2=>exact HC0.out);(case side3=>exact FnL.later (uH HB.out) (show FnL Try.prog w (.func (.func G1) fi1 ca1) a1 from ⟨_,_,_,rfl,uJ,HF1.out⟩));rintro e w4 ⟨rfl,hb⟩;refine ⟨_,rfl,?_⟩;replace HB:=xH HB hb;(try clear hb)));go_ret;exact ⟨eX,uH HB.out⟩
/-! ### lZ: function 79 -/
def lZ.f (k : Nat) (l0 : List (List Int)) (a1 : (List Int → Option Bool)) : Option (Bool):=(jI.f k l0 (fun z_=>jH.f z_ a1)).bind fun ahT=>(some (!ahT))
theorem lZ.calls (k : Nat) (A0 : Option Addr) (c0 : Nat) (l0 : List (List Int)) (F1 : Value) (a1 : (List Int → Option Bool)) (r : Bool) (w : World) (hr0 : Kd.C (Kd.slice 2 (Kd.int .i64)) w A0 l0.length l0) (hc0 : l0.length ≤ c0) (hF1 : FnL Try.prog w F1 a1) (H : lZ.f k l0 a1 = some r) :
  Calls Try.prog 79 #[.slice A0 l0.length c0,F1] w fun e w'=>e = .returned (.bool r)∧Below w.heap.size w w':=by
 have hmf : ∀ (fn_ : Fn) (first_ cap_ : Array Value) (w_ : World),(Instr.makeFunc fn_ first_ cap_).run Try.prog w_ = .ok (.func fn_ first_ cap_) w_:=fun _ _ _ _=>rfl;have HR0:=zA hr0;have HC0:=zA hc0;clear hr0 hc0;obtain ⟨G1,fi1,ca1,rfl,uJ,hF1⟩:=hF1;have uJ : ∀ (args_ : Array Value) (w_ : World),(callFunc G1 args_).run Try.prog w_ = .ok (.enter G1 args_) w_:=uJ;have HF1:=zA hF1;clear hF1;have HB:=zA (Below.refl w.heap.size w);unfold lZ.f at H;replace H:=bO H;obtain ⟨ahT,A3,H⟩:=H;obtain rfl:=Option.some.inj H;go_enter Try.func79,Try.ntmps79;go_wp2_with (first | ((with_reducible refine aT (N:=3) rfl ?_);refine bx 3 #[(.func (.func G1) fi1 ca1)] 44 ?_;intro Y6 hg w4 hbox hb;have Y7:=zA (hbox);have anP:=gq HB hg;have:=geI anP;have anQ:=gq HB hg;replace HB:=xH HB hb;have:=geI anQ;clear hb hbox hg) | ((with_reducible refine ag (f:=98) rfl ?_);refine gL (some 7) Try.func98 #[.slice A0 l0.length c0,(.func (.func 99) #[] #[.pointer (some ⟨Y6,0,none⟩)])] ?_;(with_reducible refine (jI.calls k _ _ l0 _ (fun z_=>jH.f z_ a1) ahT _ ?side1 ?side2 ?side3 A3.out).mono ?_);(case side1=>exact uC ((Kd.aW HR0.out HB.out)));(case side2=>exact HC0.out);(case side3=>exact FnL.of Try.func99 (by kernel_rfl) rfl (fun z_ r_ A_ c_ hr_ W_ hW_ hC_ hc_=>dR (args':=#[.slice A_ z_.length c_,.pointer (some ⟨Y6,0,none⟩)]) (by simp) ((jH.calls A_ c_ z_ _ _ a1 r_ W_ hC_ hc_ (dD (g:=Y6) (o:=.cells #[(.func (.func G1) fi1 ca1)] 44 (0,0)) (uB Y7.out) hW_) (FnL.later hW_ (by exact FnL.later (uH HB.out) (show FnL Try.prog w (.func (.func G1) fi1 ca1) a1 from ⟨_,_,_,rfl,uJ,HF1.out⟩))) hr_).mono fun e_ W2_ h_=>⟨h_.1,h_.2⟩)));rintro e w5 ⟨rfl,hb⟩;refine ⟨_,rfl,?_⟩;replace Y7:=xB Y7 hb;replace HB:=xH HB hb;(try clear hb)));go_ret;exact ⟨eX,uH HB.out⟩
/-! ### mU: function 53 -/
def mU.f (a0 : Int) (a1 : Int) (a2 : Int) : Option (Bool):=if a0 ≥ a1 then (some (decide (a0 ≤ a2))) else (some false)
theorem mU.calls (a0 : Int) (a1 : Int) (a2 : Int) (r : Bool) (w : World) (H : mU.f a0 a1 a2 = some r) :
  Calls Try.prog 53 #[.int .i64 a0,.int .i64 a1,.int .i64 a2] w fun e w'=>e = .returned (.bool r)∧bA w w':=by
 unfold mU.f at H;replace H:=gI H;obtain ⟨c4,H⟩|⟨c4,H⟩:=H
 ·have pQ : decide (a1 ≤ a0) = false:=decide_eq_false c4;clear c4;obtain rfl:=Option.some.inj H;go_enter Try.func53,Try.ntmps53;go_wp2;go_ret;exact ⟨by first | rfl | (simp;done) | (simp [*];done),by repeat (first | exact bA.refl _ | apply bA.step)⟩
 have pQ : decide (a1 ≤ a0) = true:=decide_eq_true c4;clear c4;obtain rfl:=Option.some.inj H;go_enter Try.func53,Try.ntmps53;go_wp2;go_ret;exact ⟨by first | rfl | (simp;done) | (simp [*];done),by repeat (first | exact bA.refl _ | apply bA.step)⟩
/-! ### jq: function 68 -/
def jq.f (a0 : Int) (a1 : Int) : Option (Int):=if a0 = 0 then (none) else (some (Int.tmod (wrap64 ((Int.tmod a1 a0) + a0)) a0))
theorem jq.calls (a0 : Int) (a1 : Int) (r : Int) (w : World) (H : jq.f a0 a1 = some r) :
  Calls Try.prog 68 #[.int .i64 a0,.int .i64 a1] w fun e w'=>e = .returned (.int .i64 r)∧bA w w':=by
 unfold jq.f at H;replace H:=gI H;obtain ⟨c3,H⟩|⟨c3,H⟩:=H
 ·have rH : (a0 == 0) = false:=beq_eq_false_iff_ne.mpr c3;have FD : (a0 != 0) = true:=bne_iff_ne.mpr c3;obtain rfl:=Option.some.inj H;go_enter Try.func68,Try.ntmps68;go_wp2;go_ret;exact ⟨by first | rfl | (simp;done) | (simp [*];done),by repeat (first | exact bA.refl _ | apply bA.step)⟩
 exact absurd H (by simp)
/-- A state of type 81 at block g of W; what its slices lead to came in by w0. -/
def au (w0 W : World) (g : Nat) (f0 : List Int) (f1 : Int) (f2 : Int) : Prop:=∃ A0 c0,W.heap[g]? = some (.cells #[.slice A0 f0.length c0,.int .i64 f1,.int .u64 f2] 81 (0,0))∧w0.heap.size ≤ g∧Kd.C (Kd.int .u8) w0 A0 f0.length f0
theorem au.grown {w0 W : World} {g : Nat} {f0 : List Int} {f1 : Int} {f2 : Int} {W1 : World} {row : Option Nat} (h : au w0 W g f0 f1 f2) (hw : W.grownBy W1 row) (hne : some g ≠ row) : au w0 W1 g f0 f1 f2:=by
 obtain ⟨A0,c0,hb,hg,hr0⟩:=h;exact ⟨A0,c0,iH hb hw hne,hg,hr0⟩
theorem au.arT {w0 W : World} {g : Nat} {f0 : List Int} {f1 : Int} {f2 : Int} {α : Type} {d : Kd α} {e : Nat} {base : Nat} {ok : Nat → Prop} {v : Value} {xs : List α} (h : au w0 W g f0 f1 f2) (ho : Kd.N d e W base ok v xs) (ht : e ≠ 81) : some g ≠ v.ownBlock:=by
 obtain ⟨A0,c0,hb,hg,hr0⟩:=h;exact Kd.ZI ho hb ht
theorem au.fresh {w0 W : World} {g : Nat} {f0 : List Int} {f1 : Int} {f2 : Int} (h : au w0 W g f0 f1 f2) : ∀ k,W.heap.size ≤ k → k ≠ g:=by
 obtain ⟨A0,c0,hb,hg,hr0⟩:=h;exact Kd.iK hb
theorem au.kept {w0 W : World} {g : Nat} {f0 : List Int} {f1 : Int} {f2 : Int} {W1 : World} {S : Nat → Prop} (h : au w0 W g f0 f1 f2) (hk : Kept W W1 S) (hne : ¬ S g) : au w0 W1 g f0 f1 f2:=by
 obtain ⟨A0,c0,hb,hg,hr0⟩:=h;exact ⟨A0,c0,Mk hb hk hne,hg,hr0⟩
theorem au.below {w0 W : World} {g : Nat} {f0 : List Int} {f1 : Int} {f2 : Int} {W1 : World} (h : au w0 W g f0 f1 f2) (hw : Below W.heap.size W W1) : au w0 W1 g f0 f1 f2:=h.grown (zX hw none) (by simp)
theorem au.alloc {w0 W : World} {g : Nat} {f0 : List Int} {f1 : Int} {f2 : Int} (h : au w0 W g f0 f1 f2) (o : Obj) : au w0 (W.alloc o) g f0 f1 f2:=h.below (gJ (Below.refl _ _) o)
theorem au.drewN {w0 W : World} {g : Nat} {f0 : List Int} {f1 : Int} {f2 : Int} (h : au w0 W g f0 f1 f2) (m : Nat) : au w0 (W.drewN m) g f0 f1 f2:=h
theorem au.drew {w0 W : World} {g : Nat} {f0 : List Int} {f1 : Int} {f2 : Int} (h : au w0 W g f0 f1 f2) : au w0 W.drew g f0 f1 f2:=h
theorem au.at_ {w0 W : World} {g : Nat} {f0 : List Int} {f1 : Int} {f2 : Int} {w' : World} {m : Nat} (hq : W.drewN m = w') (h : au w0 W g f0 f1 f2) : au w0 w' g f0 f1 f2:=by subst hq;exact au.drewN h m
theorem au.apart {w0 W : World} {g : Nat} {f0 : List Int} {f1 : Int} {f2 : Int} {α : Type} {d : Kd α} {e : Nat} {base : Nat} {ok : Nat → Prop} {v : Value} {xs : List α} (h : au w0 W g f0 f1 f2) (ho : d.R e W base ok v xs) (ht : ∀ q,q ∈ e :: d.E → q ≠ 81) : d.R e W base (fun k=>ok k∧k ≠ g) v xs:=by
 obtain ⟨A0,c0,hb,hg,hr0⟩:=h;exact Kd.dE ho hb ht
theorem au.own_ne {w0 W : World} {g : Nat} {f0 : List Int} {f1 : Int} {f2 : Int} {α : Type} {d : Kd α} {e : Nat} {base : Nat} {ok : Nat → Prop} {v : Value} {xs : List α} (h : au w0 W g f0 f1 f2) (ho : d.R e W base ok v xs) (ht : e ≠ 81) : some g ≠ v.ownBlock:=by
 obtain ⟨A0,c0,hb,hg,hr0⟩:=h;exact Kd.rC ho hb ht
theorem au.avp {w0 W : World} {g : Nat} {f0 : List Int} {f1 : Int} {f2 : Int} {α : Type} {d : Kd α} {e : Nat} {base : Nat} {ok : Nat → Prop} {v : Value} {xs : List α} (h : au w0 W g f0 f1 f2) (ho : d.Q e W base ok v xs) (ht : ∀ q,q ∈ e :: d.E → q ≠ 81) : d.Q e W base (fun k=>ok k∧k ≠ g) v xs:=by
 obtain ⟨A0,c0,hb,hg,hr0⟩:=h;exact Kd.ZP ho hb ht
theorem au.arU {w0 W : World} {g : Nat} {f0 : List Int} {f1 : Int} {f2 : Int} {α : Type} {d : Kd α} {e : Nat} {base : Nat} {ok : Nat → Prop} {v : Value} {xs : List α} (h : au w0 W g f0 f1 f2) (ho : d.Q e W base ok v xs) (ht : e ≠ 81) : some g ≠ v.ownBlock:=by
 obtain ⟨A0,c0,hb,hg,hr0⟩:=h;exact Kd.ash ho hb ht
theorem au.avq {w0 W : World} {g : Nat} {f0 : List Int} {f1 : Int} {f2 : Int} {α : Type} {d : Kd α} {e : Nat} {base : Nat} {ok : Nat → Prop} {v : Value} {xs : List α} (h : au w0 W g f0 f1 f2) (ho : d.S e W base ok v xs) (ht : ∀ q,q ∈ e :: d.E → q ≠ 81) : d.S e W base (fun k=>ok k∧k ≠ g) v xs:=by
 obtain ⟨A0,c0,hb,hg,hr0⟩:=h;exact Kd.ZE ho hb ht
theorem au.arV {w0 W : World} {g : Nat} {f0 : List Int} {f1 : Int} {f2 : Int} {α : Type} {d : Kd α} {e : Nat} {base : Nat} {ok : Nat → Prop} {v : Value} {xs : List α} (h : au w0 W g f0 f1 f2) (ho : d.S e W base ok v xs) (ht : e ≠ 81) : some g ≠ v.ownBlock:=by
 obtain ⟨A0,c0,hb,hg,hr0⟩:=h;exact Kd.aiF ho hb ht
theorem au.lt {w0 W : World} {g : Nat} {f0 : List Int} {f1 : Int} {f2 : Int} (h : au w0 W g f0 f1 f2) : g < W.heap.size:=by
 obtain ⟨A0,c0,hb,hg,hr0⟩:=h;exact uU hb
theorem au.ge {w0 W : World} {g : Nat} {f0 : List Int} {f1 : Int} {f2 : Int} (h : au w0 W g f0 f1 f2) : w0.heap.size ≤ g:=by
 obtain ⟨A0,c0,hb,hg,hr0⟩:=h;exact hg
theorem au.Er {w0 W : World} {g : Nat} {f0 : List Int} {f1 : Int} {f2 : Int} {a : Nat} {cs : Array Value} {t : TypeId} {fr : Nat × Nat} (h : au w0 W g f0 f1 f2) (hb2 : W.heap[a]? = some (.cells cs t fr)) (ht : t ≠ 81) : g ≠ a:=by
 obtain ⟨A0,c0,hb,hg,hr0⟩:=h;rintro rfl;rw [hb] at hb2;injection hb2 with hb2;injection hb2 with _ ht2;exact ht ht2.symm
theorem au.far {w0 W : World} {g : Nat} {f0 : List Int} {f1 : Int} {f2 : Int} {p : Addr} (h : au w0 W g f0 f1 f2) (hne : g ≠ p.block) (u : Value) : au w0 (W.setCell p u) g f0 f1 f2:=by
 obtain ⟨A0,c0,hb,hg,hr0⟩:=h;exact ⟨A0,c0,dG hb hne u,hg,hr0⟩
theorem JS {W : World} {g : Nat} {A0 : Option Addr} {c0 : Nat} {f0 : List Int} {f1 : Int} {f2 : Int} (h : W.heap[g]? = some (.cells #[.slice A0 f0.length c0,.int .i64 f1,.int .u64 f2] 81 (0,0))) : W.cell? ⟨g,0,none⟩ = some (.slice A0 f0.length c0):=(dH h 0).trans rfl
theorem JU {W : World} {g : Nat} {A0 : Option Addr} {c0 : Nat} {f0 : List Int} {f1 : Int} {f2 : Int} (h : W.heap[g]? = some (.cells #[.slice A0 f0.length c0,.int .i64 f1,.int .u64 f2] 81 (0,0))) : W.cell? ⟨g,1,none⟩ = some (.int .i64 f1):=(dH h 1).trans rfl
theorem au.Y8 {w0 W : World} {g : Nat} {f0 : List Int} {f1 : Int} {f2 : Int} (h : au w0 W g f0 f1 f2) (x : Int) : au w0 (W.setCell ⟨g,1,none⟩ (.int .i64 x)) g f0 x f2:=by
 obtain ⟨A0,c0,hb,hg,hr0⟩:=h;exact ⟨A0,c0,by simpa using ug hb 1 (.int .i64 x),hg,hr0⟩
theorem JV {W : World} {g : Nat} {A0 : Option Addr} {c0 : Nat} {f0 : List Int} {f1 : Int} {f2 : Int} (h : W.heap[g]? = some (.cells #[.slice A0 f0.length c0,.int .i64 f1,.int .u64 f2] 81 (0,0))) : W.cell? ⟨g,2,none⟩ = some (.int .u64 f2):=(dH h 2).trans rfl
theorem au.Y9 {w0 W : World} {g : Nat} {f0 : List Int} {f1 : Int} {f2 : Int} (h : au w0 W g f0 f1 f2) (x : Int) : au w0 (W.setCell ⟨g,2,none⟩ (.int .u64 x)) g f0 f1 x:=by
 obtain ⟨A0,c0,hb,hg,hr0⟩:=h;exact ⟨A0,c0,by simpa using ug hb 2 (.int .u64 x),hg,hr0⟩
theorem au.new (w0 W : World) (A0 : Option Addr) (c0 : Nat) (f0 : List Int) (f1 : Int) (f2 : Int) (hB : Below w0.heap.size w0 W) (hr0 : Kd.C (Kd.int .u8) w0 A0 f0.length f0) : au w0 (W.alloc (.cells #[.slice A0 f0.length c0,.int .i64 f1,.int .u64 f2] 81)) W.heap.size f0 f1 f2:=⟨A0,c0,by simpa using heap_alloc_new W _,hB.size,hr0⟩

/-! ### aY: function 51 -/
def aY.f (bX : List Int) (gH : Int) (gP : Int) (a1 : Int) : Option (Int × Int × Int):=if a1 < 1 then (some (0,gH,gP)) else (if gH < (bX.length : Int) then (if 0 ≤ gH then (if a1 = 0 then (none) else (some (Int.tmod (wrap64 ((wrap64 (Go.bits .and .u64 ((IntKind.u64.wrap ((IntKind.u64.wrap (gP * 6364136223846793005)) + 1442695040888963407)) / 8589934592) 16777215)) + (wrap64 (rd bX gH)))) a1,wrap64 (gH + 1),IntKind.u64.wrap ((IntKind.u64.wrap (gP * 6364136223846793005)) + 1442695040888963407)))) else (none)) else (if a1 = 0 then (none) else (some (Int.tmod (wrap64 (Go.bits .and .u64 ((IntKind.u64.wrap ((IntKind.u64.wrap (gP * 6364136223846793005)) + 1442695040888963407)) / 8589934592) 16777215)) a1,gH,IntKind.u64.wrap ((IntKind.u64.wrap (gP * 6364136223846793005)) + 1442695040888963407)))))
theorem aY.calls (g : Nat) (bX : List Int) (gH : Int) (gP : Int) (a1 : Int) (r1 : Int) (r2 : Int) (r3 : Int) (w0 w : World) (hI : au w0 w g bX gH gP) (hB : Below w0.heap.size w0 w) (H : aY.f bX gH gP a1 = some (r1,r2,r3)) :
  Calls Try.prog 51 #[.pointer (some ⟨g,0,none⟩),.int .i64 a1] w fun e w'=>e = .returned (.int .i64 r1)∧au w0 w' g bX r2 r3∧Below w0.heap.size w0 w'∧aC w w' g none:=by
 have HI0:=zA hI;have HK:=zA (aC.refl w g none);have HL:=zA hB.size;clear hI;have HW0:=zA hB.size;have HB:=zA hB;clear hB;unfold aY.f at H;replace H:=gF H;obtain ⟨rH,H⟩|⟨rH,H⟩:=H
 ·replace H:=gF H;obtain ⟨pQ,H⟩|⟨pQ,H⟩:=H
  ·replace H:=gI H;obtain ⟨c8,H⟩|⟨c8,H⟩:=H
   ·have yE : (a1 == 0) = false:=beq_eq_false_iff_ne.mpr c8;have Ja : (a1 != 0) = true:=bne_iff_ne.mpr c8;simp only [Option.some.injEq,Prod.mk.injEq] at H;obtain ⟨rfl,rfl,rfl⟩:=H;obtain ⟨avr,avs,Ux,hgz9,avt⟩:=HI0.out;have y8:=JS Ux;have y9:=JU Ux;have avu:=JV Ux;have za:=kH Ux 1;have avv:=kH Ux 2;clear Ux hgz9;go_enter Try.func51,Try.ntmps51;go_wp2;(repeat (go_quiet (fail);try go_wp2));go_ret;exact ⟨eX,by repeat (first | (with_reducible first | exact HI0.out | apply au.alloc | apply au.drewN | apply au.drew | apply au.Y8 | apply au.Y9) | exact HI0.out),by repeat (first | (with_reducible first | exact HB.out | apply gJ | apply bD | apply aZ | refine lC ?_ (au.ge HI0.out)) | exact HB.out),by repeat (first | (with_reducible first | exact HK.out | apply aC.UX | apply y5 | apply AO | apply y7) | exact HK.out)⟩
   exact absurd H (by simp)
  replace H:=gD H;obtain ⟨mq,H⟩:=H;replace H:=gI H;obtain ⟨c6,H⟩|⟨c6,H⟩:=H
  ·have oP : (a1 == 0) = false:=beq_eq_false_iff_ne.mpr c6;have uE : (a1 != 0) = true:=bne_iff_ne.mpr c6;simp only [Option.some.injEq,Prod.mk.injEq] at H;obtain ⟨rfl,rfl,rfl⟩:=H;obtain ⟨avw,avx,Uy,hgz7,ahU⟩:=HI0.out;have afM:=JS Uy;have afN:=JU Uy;have avy:=JV Uy;have afO:=kH Uy 1;have avz:=kH Uy 2;clear Uy hgz7;have ahV : 0 ≤ (gH : Int):=oD;have ahW : gH < (bX.length : Int):=oD;obtain ⟨anR,avA,Bi⟩:=Kd.ic ahU gH ahV ahW;cases avA;have Gq : anR.block ≠ g:=Nat.ne_of_lt (Nat.lt_of_lt_of_le (by have:=World.block_lt_of_cell? _ _ Bi;first | rwa [add_block] at this | exact this) (au.ge HI0.out));replace Bi:=jF HB.out Bi;replace Bi:=(cell_far (p:=⟨g,2,none⟩) (by first | (rw [add_block];exact Gq) | (show (Addr.add _ _).block ≠ _;rw [add_block];exact Gq) | exact Gq) (.int .u64 (IntKind.u64.wrap ((IntKind.u64.wrap (gP * 6364136223846793005)) + 1442695040888963407)))).trans Bi;(try have arW:=fun (n_ : Nat)=>(show (((w.drewN n_).setCell ⟨g,2,none⟩ (.int .u64 (IntKind.u64.wrap ((IntKind.u64.wrap (gP * 6364136223846793005)) + 1442695040888963407))))).cell? _ = some _ from Bi));clear Gq;replace ahV:=eq_true ahV;replace ahW:=eq_true ahW;go_enter Try.func51,Try.ntmps51;go_wp2;(repeat (go_quiet (fail);try go_wp2));go_ret;exact ⟨eX,by repeat (first | (with_reducible first | exact HI0.out | apply au.alloc | apply au.drewN | apply au.drew | apply au.Y8 | apply au.Y9) | exact HI0.out),by repeat (first | (with_reducible first | exact HB.out | apply gJ | apply bD | apply aZ | refine lC ?_ (au.ge HI0.out)) | exact HB.out),by repeat (first | (with_reducible first | exact HK.out | apply aC.UX | apply y5 | apply AO | apply y7) | exact HK.out)⟩
  exact absurd H (by simp)
 simp only [Option.some.injEq,Prod.mk.injEq] at H;obtain ⟨rfl,rfl,rfl⟩:=H;go_enter Try.func51,Try.ntmps51;go_wp2;(repeat (go_quiet (fail);try go_wp2));go_ret;exact ⟨eX,by repeat (first | (with_reducible first | exact HI0.out | apply au.alloc | apply au.drewN | apply au.drew | apply au.Y8 | apply au.Y9) | exact HI0.out),by repeat (first | (with_reducible first | exact HB.out | apply gJ | apply bD | apply aZ | refine lC ?_ (au.ge HI0.out)) | exact HB.out),by repeat (first | (with_reducible first | exact HK.out | apply aC.UX | apply y5 | apply AO | apply y7) | exact HK.out)⟩
/-! ### eF: function 47 -/
def eF.l0 : Nat → List Int → Int → List Int → Int → Int → Option (List Int × Int × Int)
 | 0,_,_,_,_,_=>none
 | k + 1,x0,x4,LC,LD,LF=>if x4 < (x0.length : Int) then (if x4 < 4096 then (if 0 ≤ x4 then (eF.l0 k x0 (wrap64 (x4 + 1)) LC LD (IntKind.u64.wrap ((IntKind.u64.wrap ((IntKind.u64.wrap (LF * 1099511628211)) + (IntKind.u64.wrap (rd x0 x4)))) + 103))) else (none)) else (some (LC,LD,LF))) else (some (LC,LD,LF))
def eF.f (k : Nat) (l0 : List Int) : Option (List Int × Int × Int):=eF.l0 k l0 0 l0 0 (IntKind.u64.wrap (12831 + (IntKind.u64.wrap ((l0.length : Int)))))
def eF.T5 : Bool × List (List Nat × List Nat):=(true,[([],[]),([],[]),([1],[1]),([2],[2]),([3],[3]),([4],[4]),([],[]),([],[]),([6,7],[6,7]),([8],[8]),([9],[9]),([5,10],[5,10]),([11],[11]),([0,0,1,2,3,4,5,6,7,8,9,10,11,12],[0]),([13,0,1,2,3,4,5,6,7,8,9,10,11,12],[13]),([14,12,0,1,2,3,4,5,6,7,8,9,10,11,12],[12,14])])
def eF.B5 : List Nat:=[0,0,2,6,14,30,0,0,192,448,960,2046,4094,8191,16383,32767]
theorem eF.Ku : mf .any (opsOf Try.f47 5) = eF.T5:=by kernel_rfl
theorem eF.CV : jP eF.T5.2 eF.B5 = true:=by kernel_rfl
theorem eF.calls (k : Nat) (A0 : Option Addr) (c0 : Nat) (l0 : List Int) (r1 : List Int) (r2 : Int) (r3 : Int) (w0 w : World) (hB : Below w0.heap.size w0 w) (hr0 : Kd.C (Kd.int .u8) w0 A0 l0.length l0) (hc0 : l0.length ≤ c0) (H : eF.f k l0 = some (r1,r2,r3)) :
  Calls Try.prog 47 #[.slice A0 l0.length c0] w fun e w'=>∃ g_ : Nat,e = .returned (.pointer (some ⟨g_,0,none⟩))∧au w0 w' g_ r1 r2 r3∧Below w0.heap.size w0 w'∧Below w.heap.size w w':=by
 have aAd:=Try.underlying81;have HR0:=zA hr0;have HC0:=zA hc0;clear hr0 hc0;have HBW:=zA (Below.refl w.heap.size w);have HW0:=zA hB.size;have HB:=zA hB;clear hB;unfold eF.f at H;have H':=zA H;clear H;go_enter Try.func47,Try.ntmps47;go_wp2_with (first | ((with_reducible refine aT (N:=11) rfl ?_);refine bx 11 #[.slice A0 l0.length c0,.int .i64 0,.int .u64 (IntKind.u64.wrap (12831 + (IntKind.u64.wrap ((l0.length : Int)))))] 81 ?_;intro D8 hg w2 hbox hb;replace HB:=xH HB hb;have yw:=zA (hbox);have adO:=gq HBW hg;have:=geI adO;have Za:=zA ((Nat.le_trans HW0.out (by rw [hg];exact (af (uH HBW.out)) : w.heap.size ≤ D8) : w0.heap.size ≤ D8));replace HBW:=zA (cK HBW.out hb);have:=geI Za;have:=geI adO;clear hb hbox hg));go_loopg [4] k (fun kq v4 w'=>∃ (xN : Int) (qZ : Int),v4 = .int .i64 xN∧aa (eF.l0 kq l0 xN l0 0 qZ = some (r1,r2,r3))∧aa (kq ≤ k)∧aa (w'.heap[D8]? = some (.cells #[(.slice A0 l0.length c0),.int .i64 0,.int .u64 qZ] 81 (0,0)))∧aa (Below w0.heap.size w0 w')∧aa (Below w.heap.size w w'));(case atStart=>exact ⟨(0),(IntKind.u64.wrap (12831 + (IntKind.u64.wrap ((l0.length : Int))))),eS,H',⟨Nat.le_refl _⟩,⟨uB yw.out⟩,⟨uH HB.out⟩,⟨uH HBW.out⟩⟩)
 case round =>
  clear H';(try clear p2);obtain ⟨xN,qZ,rfl,HA,HK1,yw,HB,HBW⟩:=hrel
  cases gk with
  | zero=>exact absurd HA.out (by simp [eF.l0])
  | succ k1 =>
   have H:=HA.out;clear HA;simp only [eF.l0] at H;replace H:=gF H;obtain ⟨rH,H⟩|⟨rH,H⟩:=H
   ·simp only [Option.some.injEq,Prod.mk.injEq] at H;obtain ⟨rfl,rfl,rfl⟩:=H;go_wp2;go_ret;exact ⟨_,rfl,(show au w0 _ D8 l0 0 qZ from ⟨_,_,uB yw.out,Za.out,HR0.out⟩),uH HB.out,uH HBW.out⟩
   replace H:=gF H;obtain ⟨pQ,H⟩|⟨pQ,H⟩:=H
   ·simp only [Option.some.injEq,Prod.mk.injEq] at H;obtain ⟨rfl,rfl,rfl⟩:=H;go_wp2;go_ret;exact ⟨_,rfl,(show au w0 _ D8 l0 0 qZ from ⟨_,_,uB yw.out,Za.out,HR0.out⟩),uH HB.out,uH HBW.out⟩
   replace H:=gD H;obtain ⟨mq,H⟩:=H;have H':=zA H;clear H;(try go_wp2);have n0_:=zA (eD yw.out);have n1_:=zA (aZ HB.out);have m9_:=zA (aZ HBW.out);clear yw HB HBW;have yw:=n0_;have HB:=n1_;have HBW:=m9_;clear n0_ n1_;have ahX : 0 ≤ (xN : Int):=oD;have ahY : xN < (l0.length : Int):=oD;obtain ⟨Zb,avB,Gr⟩:=Kd.ic HR0.out xN ahX ahY;have SF:=Gr;cases avB;replace Gr:=jF HB.out Gr;replace ahX:=eq_true ahX;replace ahY:=eq_true ahY;refine kF (n:=16) (S:=fun w'=>w'.cell? ⟨D8,0,none⟩ = some (.slice (some Zb) l0.length c0)∧w'.cell? ⟨D8,1,none⟩ = some (.int .i64 0)∧w'.cell? ⟨D8,2,none⟩ = some (.int .u64 qZ)∧w'.cell? (Zb.add (xN).toNat) = some (.int .u8 (rd l0 xN))) (ds:=[15]) #[false,false,false,false,false,false,false,false,false,false,false,false,false,false,false,false] (by kernel_rfl) rfl rfl ⟨bcu yw 0,bcu yw 1,bcu yw 2,((HB.out.cell (World.block_lt_of_cell? w0 _ SF)).trans SF)⟩ (fun hHeld=>?_);refine gX eF.Ku eF.CV (fun HT_ HW_=>?_);generalize wr.drew = w6 at yw HB HBW Gr hHeld ⊢;refine pu_ 0 22 (bl 16 1) HT_ ?_;refine pu_ 1 23 (bl 16 3) HT_ ?_;refine pu_ 2 24 (bl 16 7) HT_ ?_;refine pu_ 3 25 (bl 16 15) HT_ ?_;refine pu_ 6 28 (bl 16 79) HT_ ?_;refine pu_ 7 29 (bl 16 207) HT_ ?_;refine pu_ 8 30 (bl 16 463) HT_ ?_;refine ta_ 4 26 (bl 16 479) HT_ HW_ hHeld ?_;refine pu_ 5 27 (bl 16 511) HT_ ?_;refine ta_ 9 31 (bl 16 1023) HT_ HW_ hHeld ?_;refine pu_ 10 32 (bl 16 2047) HT_ ?_;refine pu_ 11 33 (bl 16 4095) HT_ ?_;refine pu_ 12 34 (bl 16 8191) HT_ ?_;refine pu_ 13 35 (bl 16 16383) HT_ ?_;refine pu_ 14 36 (bl 16 32767) HT_ ?_;refine Bt (i:=15) (N:=none) (bl 16 65535) rfl rfl (wF HT_.out (by kernel_rfl)) (by decide) (fun K hK=>?_);have hs7 : w6.cell? ⟨D8,2,none⟩ = some (.int .u64 qZ):=(dH yw.out 2).trans rfl;have aAe:=bf yw 2;refine uL (w1:=?_) (by rfl) rfl ?_ ?_;rotate_left
   ·go_simp;rfl
   refine hK.out _ _ ?_;clear hK K;refine done_ (done_of HT_.out (by kernel_rfl)) ?_;(try go_wp2);go_roundg k1;(case measure=>have:=HK1.out;omega);(case rel=>exact ⟨(wrap64 (xN + 1)),(IntKind.u64.wrap ((IntKind.u64.wrap ((IntKind.u64.wrap (qZ * 1099511628211)) + (IntKind.u64.wrap (rd l0 xN)))) + 103)),eS,H',⟨by have:=HK1.out;omega⟩,⟨by (repeat refine up1 ?_);refine bV (cs:=#[.slice (some Zb) l0.length c0,.int .i64 0,.int .u64 qZ]) ?_ 2 _ rfl;(repeat refine up1 ?_);exact yw.out⟩,⟨uH HB.out⟩,⟨uH HBW.out⟩⟩)
/-! ### jX: function 50 -/
def jX.f (l0 : List Int) : Option (List Int):=(some (([] : List Int) : List Int)).bind fun y101=>(if y101.length + l0.length < 17592186044416 then (some (y101 ++ l0)) else (none))
theorem jX.calls (A0 : Option Addr) (c0 : Nat) (l0 : List Int) (r : List Int) (w : World) (hr0 : Kd.C (Kd.int .i64) w A0 l0.length l0) (hc0 : l0.length ≤ c0) (H : jX.f l0 = some r) :
  Calls Try.prog 50 #[.slice A0 l0.length c0] w fun e w'=>∃ v0_ : Value,e = .returned (v0_)∧Kd.R (Kd.int .i64) 2 w' w.heap.size (fun _=>True) v0_ r∧Below w.heap.size w w':=by
 have HR0:=zA hr0;have HC0:=zA hc0;clear hr0 hc0;have HB:=zA (Below.refl w.heap.size w);unfold jX.f at H;replace H:=bS H;obtain ⟨y101,adP,H⟩:=H;replace H:=gZ H;obtain ⟨ag5,H⟩:=H;obtain ⟨y104,adQ⟩:=eY (y101 ++ l0 : List Int);(try rw [←adQ.out] at H);obtain rfl:=Option.some.inj H;go_enter Try.func50,Try.ntmps50;go_wp2_with (first | ((with_reducible refine aT (N:=3) rfl ?_);refine Kd.mX (Kd.int .i64) _ 2 ?hg (N:=3) ?hd (xs:=([] : List Int)) (inner:=[]) (ok:=fun _=>True) (okp:=fun _=>True) ?hr ?hp (fun _ hk=>hk) trivial (Below.refl _ _) (Nat.le_refl _) (by simp) ?_;(case hd=>rfl);(case hg=>rfl);(case hr=>first | (go_simp;done) | (go_simp;rfl));(case hp=>exact (cB.none _ _));intro avC w3 ho4 hb hg_ hnew_;clear hg_ hnew_;(first | rw [← adP.out] at ho4 | (simp only [Int.reduceToNat] at ho4;rw [← adP.out] at ho4));have adR:=zA (Kd.aX ho4 (af (uH HB.out)));replace HB:=xH HB hb;clear hb ho4) | ((with_reducible refine fo (b:=.append) (xs:=#[.tmp 3,.tmp 4]) rfl ?_);at_builtin;refine Kd.vM (Kd.int .i64) (w0:=w) w.heap.size rfl (.tmp 3) (.tmp 4) 24 2 (.int .i64 0) 8 rfl Try.underlying24 lh rfl (by decide) (by omega) avC y101 l0 _ _ _ (fun _=>True) (fun _=>False) rfl rfl ?aO ?aR (fun _ _ h=>h) (fun _ h=>h.elim) ?aF ?aB ?aS ?aL ?_;(case aR=>exact uC ((Kd.aW HR0.out HB.out)));(case aB=>exact (uH HB.out));(case aF=>exact (fun _ _=>trivial));(case aO=>exact (uR adR.out));(case aS=>exact (af (uH HB.out)));(case aL=>have:=ag5.out;omega);intro v105 w5 ho hb hg hat;rw [← adQ.out] at ho;replace HB:=zA (hb);have anS:=zA (ho);clear adR ho hb hg hat));go_ret;exact ⟨_,eX,uR anS.out,uH HB.out⟩
/-! ### jB: function 64 -/
def jB.l0 : Nat → Int → List Int → Int → Option (Bool)
 | 0,_,_,_=>none
 | k + 1,x0,x1,x5=>if x5 < (x1.length : Int) then (if 0 ≤ x5 then (if (rd x1 x5) < 0 then (some false) else (if (rd x1 x5) ≥ x0 then (some false) else (jB.l0 k x0 x1 (wrap64 (x5 + 1))))) else (none)) else (if (x1.length : Int) ≤ 25 then (if (x1.length : Int) = 0 then (some true) else (if 0 ≤ (wrap64 ((x1.length : Int) - 1)) then (if (wrap64 ((x1.length : Int) - 1)) < (x1.length : Int) then (some ((rd x1 (wrap64 ((x1.length : Int) - 1))) != 0)) else (none)) else (none))) else (some false))
def jB.f (k : Nat) (a0 : Int) (l1 : List Int) : Option (Bool):=jB.l0 k a0 l1 0
theorem jB.calls (k : Nat) (a0 : Int) (A1 : Option Addr) (c1 : Nat) (l1 : List Int) (r : Bool) (w : World) (hr1 : Kd.C (Kd.int .i64) w A1 l1.length l1) (hc1 : l1.length ≤ c1) (H : jB.f k a0 l1 = some r) :
  Calls Try.prog 64 #[.int .i64 a0,.slice A1 l1.length c1] w fun e w'=>e = .returned (.bool r)∧bA w w':=by
 have HR1:=zA hr1;have HC1:=zA hc1;clear hr1 hc1;unfold jB.f at H;have H':=zA H;clear H;go_enter Try.func64,Try.ntmps64;go_wp2;go_loopg [5] k (fun kq v5 w'=>∃ (gV : Int),v5 = .int .i64 gV∧aa (jB.l0 kq a0 l1 gV = some r)∧aa (kq ≤ k)∧bA w w');(case atStart=>exact ⟨(0),eS,H',⟨Nat.le_refl _⟩,by repeat (first | exact bA.refl _ | apply bA.step)⟩)
 case round =>
  clear H';(try clear c1);(try clear p2);obtain ⟨gV,rfl,HA,HK1,⟨m1,rfl⟩⟩:=hrel
  cases gk with
  | zero=>exact absurd HA.out (by simp [jB.l0])
  | succ k1 =>
   have H:=HA.out;clear HA;simp only [jB.l0] at H;replace H:=gF H;obtain ⟨rH,H⟩|⟨rH,H⟩:=H
   ·replace H:=gI H;obtain ⟨c7,H⟩|⟨c7,H⟩:=H
    ·have Bl : decide ((l1.length : Int) ≤ 25) = false:=decide_eq_false c7;have EE : decide (l1.length ≤ 25) = false:=decide_eq_false (by omega);clear c7;obtain rfl:=Option.some.inj H;go_wp2;go_ret;exact ⟨by first | rfl | (simp;done) | (simp [*];done),by repeat (first | exact bA.refl _ | apply bA.step)⟩
    have Bl : decide ((l1.length : Int) ≤ 25) = true:=decide_eq_true c7;have EE : decide (l1.length ≤ 25) = true:=decide_eq_true (by omega);clear c7;replace H:=gE H;obtain ⟨c8,yE,Ja,H⟩|⟨c8,yE,Ja,H⟩:=H
    ·have aAf : ¬ (l1 = []):=fun h_=>c8 (by rw [h_];rfl);obtain ⟨ji9,KZ⟩ : ∃ j_ : Int,(wrap64 ((l1.length : Int) - 1)) = j_:=⟨_,rfl⟩;(first | rw [KZ] at H | simp only [KZ] at H);have alq : (IntKind.i64.wrap ((l1.length : Int) - 1)) = ji9:=(jW _).trans KZ;replace H:=gD H;obtain ⟨qH,H⟩:=H;replace H:=gD H;obtain ⟨yP,H⟩:=H;obtain rfl:=Option.some.inj H;have ahZ : 0 ≤ ((ji9) : Int):=oD;have ah0 : (ji9) < (l1.length : Int):=oD;obtain ⟨ax3,avD,arX⟩:=Kd.ic HR1.out (ji9) ahZ ah0;cases avD;replace ahZ:=eq_true ahZ;replace ah0:=eq_true ah0;go_wp2;go_ret;exact ⟨by first | rfl | (simp;done) | (simp only [← KZ] <;> (first | rfl | simp)) | (simp [*];done),by repeat (first | exact bA.refl _ | apply bA.step)⟩
    clear c8;obtain rfl:=Option.some.inj H;go_wp2;go_ret;exact ⟨by first | rfl | (simp;done) | (simp [*];done),by repeat (first | exact bA.refl _ | apply bA.step)⟩
   replace H:=gD H;obtain ⟨pQ,H⟩:=H;replace H:=gF H;obtain ⟨mq,H⟩|⟨mq,H⟩:=H
   ·replace H:=gI H;obtain ⟨c6,H⟩|⟨c6,H⟩:=H
    ·have oP : decide (a0 ≤ (rd l1 gV)) = false:=decide_eq_false c6;clear c6;have H':=zA H;clear H;have IL : 0 ≤ (gV : Int):=oD;have IM : gV < (l1.length : Int):=oD;obtain ⟨SG,Zc,SH⟩:=Kd.ic HR1.out gV IL IM;cases Zc;replace IL:=eq_true IL;replace IM:=eq_true IM;have Qu : 0 ≤ (gV : Int):=oD;have Qv : gV < (l1.length : Int):=oD;obtain ⟨Zd,ah1,abX⟩:=Kd.ic HR1.out gV Qu Qv;obtain rfl : SG = Zd:=(by injection ah1);replace Qu:=eq_true Qu;replace Qv:=eq_true Qv;go_wp2;go_roundg k1;(case measure=>have:=HK1.out;omega);(case rel=>exact ⟨(wrap64 (gV + 1)),eS,H',⟨by have:=HK1.out;omega⟩,by repeat (first | exact bA.refl _ | apply bA.step)⟩)
    have oP : decide (a0 ≤ (rd l1 gV)) = true:=decide_eq_true c6;clear c6;obtain rfl:=Option.some.inj H;have IL : 0 ≤ (gV : Int):=oD;have IM : gV < (l1.length : Int):=oD;obtain ⟨SG,Zc,SH⟩:=Kd.ic HR1.out gV IL IM;cases Zc;replace IL:=eq_true IL;replace IM:=eq_true IM;have Qu : 0 ≤ (gV : Int):=oD;have Qv : gV < (l1.length : Int):=oD;obtain ⟨Zd,ah1,abX⟩:=Kd.ic HR1.out gV Qu Qv;obtain rfl : SG = Zd:=(by injection ah1);replace Qu:=eq_true Qu;replace Qv:=eq_true Qv;go_wp2;go_ret;exact ⟨by first | rfl | (simp;done) | (simp [*];done),by repeat (first | exact bA.refl _ | apply bA.step)⟩
   obtain rfl:=Option.some.inj H;have IL : 0 ≤ (gV : Int):=oD;have IM : gV < (l1.length : Int):=oD;obtain ⟨SG,Zc,SH⟩:=Kd.ic HR1.out gV IL IM;cases Zc;replace IL:=eq_true IL;replace IM:=eq_true IM;go_wp2;go_ret;exact ⟨by first | rfl | (simp;done) | (simp [*];done),by repeat (first | exact bA.refl _ | apply bA.step)⟩
/-! ### fQ: function 105 -/
def fQ.l0 : Nat → Int → Int → Int → Int → Option (Int)
 | 0,_,_,_,_=>none
 | k + 1,x0,x2,x7,x8=>if x2 > 0 then (if (Int.tmod x2 2) = 1 then (if x0 = 0 then (none) else (fQ.l0 k x0 (wrap64 (Int.tdiv x2 2)) (Int.tmod (wrap64 (x7 * x8)) x0) (Int.tmod (wrap64 (x8 * x8)) x0))) else (if x0 = 0 then (none) else (fQ.l0 k x0 (wrap64 (Int.tdiv x2 2)) x7 (Int.tmod (wrap64 (x8 * x8)) x0)))) else (if x0 = 0 then (none) else (some (Int.tmod x7 x0)))
def fQ.f (k : Nat) (a0 : Int) (a1 : Int) (a2 : Int) : Option (Int):=(jq.f a0 a1).bind fun t193=>(fQ.l0 k a0 a2 1 t193)
theorem fQ.calls (k : Nat) (a0 : Int) (a1 : Int) (a2 : Int) (r : Int) (w : World) (H : fQ.f k a0 a1 a2 = some r) :
  Calls Try.prog 105 #[.int .i64 a0,.int .i64 a1,.int .i64 a2] w fun e w'=>e = .returned (.int .i64 r)∧bA w w':=by
 unfold fQ.f at H;replace H:=bO H;obtain ⟨t193,A4,H⟩:=H;have H':=zA H;clear H;go_enter Try.func105,Try.ntmps105;go_wp2_with (first | ((with_reducible refine ag (f:=68) rfl ?_);refine gL (some 11) Try.func68 #[.int .i64 a0,.int .i64 a1] ?_;(with_reducible refine (jq.calls a0 a1 t193 _ A4.out).mono ?_);rintro e w' ⟨rfl,⟨nd,rfl⟩⟩;refine ⟨_,rfl,?_⟩));go_loopg [2,7,8] k (fun kq v2 v7 v8 w'=>∃ (wW : Int) (kg : Int) (dM : Int),v2 = .int .i64 wW∧v7 = .int .i64 kg∧v8 = .int .i64 dM∧aa (fQ.l0 kq a0 wW kg dM = some r)∧aa (kq ≤ k)∧bA w w');(case atStart=>exact ⟨(a2),(1),(t193),eS,eS,eS,H',⟨Nat.le_refl _⟩,by repeat (first | exact bA.refl _ | apply bA.step)⟩)
 case round =>
  clear H';(try clear c1);(try clear p2);obtain ⟨wW,kg,dM,rfl,rfl,rfl,HA,HK1,⟨m1,rfl⟩⟩:=hrel
  cases gk with
  | zero=>exact absurd HA.out (by simp [fQ.l0])
  | succ k1 =>
   have H:=HA.out;clear HA;simp only [fQ.l0] at H;replace H:=gI H;obtain ⟨c5,H⟩|⟨c5,H⟩:=H
   ·have mq : decide (0 < wW) = false:=decide_eq_false c5;clear c5;replace H:=gI H;obtain ⟨c9,H⟩|⟨c9,H⟩:=H
    ·have Da : (a0 == 0) = false:=beq_eq_false_iff_ne.mpr c9;have I5 : (a0 != 0) = true:=bne_iff_ne.mpr c9;obtain rfl:=Option.some.inj H;go_wp2;go_ret;exact ⟨by first | rfl | (simp;done) | (simp [*];done),by repeat (first | exact bA.refl _ | apply bA.step)⟩
    exact absurd H (by simp)
   have mq : decide (0 < wW) = true:=decide_eq_true c5;clear c5;replace H:=gE H;obtain ⟨c6,oP,uE,H⟩|⟨c6,oP,uE,H⟩:=H
   ·replace H:=gI H;obtain ⟨c8,H⟩|⟨c8,H⟩:=H
    ·have yE : (a0 == 0) = false:=beq_eq_false_iff_ne.mpr c8;have Ja : (a0 != 0) = true:=bne_iff_ne.mpr c8;have H':=zA H;clear H;go_wp2;go_roundg k1;(case measure=>have:=HK1.out;omega);(case rel=>exact ⟨(wrap64 (Int.tdiv wW 2)),(kg),(Int.tmod (wrap64 (dM * dM)) a0),eS,eS,eS,H',⟨by have:=HK1.out;omega⟩,by repeat (first | exact bA.refl _ | apply bA.step)⟩)
    exact absurd H (by simp)
   clear c6;replace H:=gI H;obtain ⟨c7,H⟩|⟨c7,H⟩:=H
   ·have Bl : (a0 == 0) = false:=beq_eq_false_iff_ne.mpr c7;have EE : (a0 != 0) = true:=bne_iff_ne.mpr c7;have H':=zA H;clear H;go_wp2;go_roundg k1;(case measure=>have:=HK1.out;omega);(case rel=>exact ⟨(wrap64 (Int.tdiv wW 2)),(Int.tmod (wrap64 (kg * dM)) a0),(Int.tmod (wrap64 (dM * dM)) a0),eS,eS,eS,H',⟨by have:=HK1.out;omega⟩,by repeat (first | exact bA.refl _ | apply bA.step)⟩)
   exact absurd H (by simp)
/-! ### iO: function 91 -/
def iO.f (k : Nat) (a0 : Int) (a1 : Int) : Option (Int):=(fQ.f k a0 a1 (wrap64 (a0 - 2))).bind fun t194=>(some t194)
theorem iO.calls (k : Nat) (a0 : Int) (a1 : Int) (r : Int) (w : World) (H : iO.f k a0 a1 = some r) :
  Calls Try.prog 91 #[.int .i64 a0,.int .i64 a1] w fun e w'=>e = .returned (.int .i64 r)∧bA w w':=by
 unfold iO.f at H;replace H:=bO H;obtain ⟨t194,A3,H⟩:=H;obtain rfl:=Option.some.inj H;go_enter Try.func91,Try.ntmps91;go_wp2_with (first | ((with_reducible refine ag (f:=105) rfl ?_);refine gL (some 9) Try.func105 #[.int .i64 a0,.int .i64 a1,.int .i64 (wrap64 (a0 - 2))] ?_;(with_reducible refine (fQ.calls k a0 a1 (wrap64 (a0 - 2)) t194 _ A3.out).mono ?_);rintro e w' ⟨rfl,⟨nd,rfl⟩⟩;refine ⟨_,rfl,?_⟩));go_ret;exact ⟨by first | rfl | (simp;done) | (simp [*];done),by repeat (first | exact bA.refl _ | apply bA.step)⟩
/-! ### fU: function 75 -/
def fU.l0 : Nat → Int → Int → Option (Bool)
 | 0,_,_=>none
 | k + 1,x0,x3=>if (wrap64 (x3 * x3)) ≤ x0 then (if x3 = 0 then (none) else (if (Int.tmod x0 x3) = 0 then (some false) else (fU.l0 k x0 (wrap64 (x3 + 1))))) else (some true)
def fU.f (k : Nat) (a0 : Int) : Option (Bool):=(mU.f a0 2 10007).bind fun anT=>(if anT = true then (fU.l0 k a0 2) else (some false))
theorem fU.calls (k : Nat) (a0 : Int) (r : Bool) (w : World) (H : fU.f k a0 = some r) :
  Calls Try.prog 75 #[.int .i64 a0] w fun e w'=>e = .returned (.bool r)∧bA w w':=by
 unfold fU.f at H;replace H:=bO H;obtain ⟨anT,A2,H⟩:=H;replace H:=gB H;obtain ⟨rfl,H⟩|⟨rfl,H⟩:=H
 ·have H':=zA H;clear H;go_enter Try.func75,Try.ntmps75;go_wp2_with (first | ((with_reducible refine ag (f:=53) rfl ?_);refine gL (some 5) Try.func53 #[.int .i64 a0,.int .i64 2,.int .i64 10007] ?_;(with_reducible refine (mU.calls a0 2 10007 true _ A2.out).mono ?_);rintro e w' ⟨rfl,⟨nd,rfl⟩⟩;refine ⟨_,rfl,?_⟩));go_loopg [3] k (fun kq v3 w'=>∃ (lv : Int),v3 = .int .i64 lv∧aa (fU.l0 kq a0 lv = some r)∧aa (kq ≤ k)∧bA w w');(case atStart=>exact ⟨(2),eS,H',⟨Nat.le_refl _⟩,by repeat (first | exact bA.refl _ | apply bA.step)⟩)
  case round =>
   clear H';(try clear p2);(try clear c3);obtain ⟨lv,rfl,HA,HK1,⟨m1,rfl⟩⟩:=hrel
   cases gk with
   | zero=>exact absurd HA.out (by simp [fU.l0])
   | succ k1 =>
    have H:=HA.out;clear HA;simp only [fU.l0] at H;replace H:=gF H;obtain ⟨pQ,H⟩|⟨pQ,H⟩:=H
    ·obtain rfl:=Option.some.inj H;go_wp2;go_ret;exact ⟨by first | rfl | (simp;done) | (simp [*];done),by repeat (first | exact bA.refl _ | apply bA.step)⟩
    replace H:=gI H;obtain ⟨c5,H⟩|⟨c5,H⟩:=H
    ·have mq : (lv == 0) = false:=beq_eq_false_iff_ne.mpr c5;have uP : (lv != 0) = true:=bne_iff_ne.mpr c5;replace H:=gE H;obtain ⟨c6,oP,uE,H⟩|⟨c6,oP,uE,H⟩:=H
     ·have H':=zA H;clear H;go_wp2;go_roundg k1;(case measure=>have:=HK1.out;omega);(case rel=>exact ⟨(wrap64 (lv + 1)),eS,H',⟨by have:=HK1.out;omega⟩,by repeat (first | exact bA.refl _ | apply bA.step)⟩)
     clear c6;obtain rfl:=Option.some.inj H;go_wp2;go_ret;exact ⟨by first | rfl | (simp;done) | (simp [*];done),by repeat (first | exact bA.refl _ | apply bA.step)⟩
    exact absurd H (by simp)
 ·obtain rfl:=Option.some.inj H;go_enter Try.func75,Try.ntmps75;go_wp2_with (first | ((with_reducible refine ag (f:=53) rfl ?_);refine gL (some 5) Try.func53 #[.int .i64 a0,.int .i64 2,.int .i64 10007] ?_;(with_reducible refine (mU.calls a0 2 10007 false _ A2.out).mono ?_);rintro e w' ⟨rfl,⟨nd,rfl⟩⟩;refine ⟨_,rfl,?_⟩));go_ret;exact ⟨by first | rfl | (simp;done) | (simp [*];done),by repeat (first | exact bA.refl _ | apply bA.step)⟩
/-! ### mD: function 59 -/
def mD.f (k : Nat) (a0 : Int) : Option (Int):=(fU.f k a0).bind fun anU=>(if anU = true then (some a0) else (some 7))
theorem mD.calls (k : Nat) (a0 : Int) (r : Int) (w : World) (H : mD.f k a0 = some r) :
  Calls Try.prog 59 #[.int .i64 a0] w fun e w'=>e = .returned (.int .i64 r)∧bA w w':=by
 unfold mD.f at H;replace H:=bO H;obtain ⟨anU,A2,H⟩:=H;replace H:=gB H;obtain ⟨rfl,H⟩|⟨rfl,H⟩:=H
 ·obtain rfl:=Option.some.inj H;go_enter Try.func59,Try.ntmps59;go_wp2_with (first | ((with_reducible refine ag (f:=75) rfl ?_);refine gL (some 4) Try.func75 #[.int .i64 a0] ?_;(with_reducible refine (fU.calls k a0 true _ A2.out).mono ?_);rintro e w' ⟨rfl,⟨nd,rfl⟩⟩;refine ⟨_,rfl,?_⟩));go_ret;exact ⟨by first | rfl | (simp;done) | (simp [*];done),by repeat (first | exact bA.refl _ | apply bA.step)⟩
 ·obtain rfl:=Option.some.inj H;go_enter Try.func59,Try.ntmps59;go_wp2_with (first | ((with_reducible refine ag (f:=75) rfl ?_);refine gL (some 4) Try.func75 #[.int .i64 a0] ?_;(with_reducible refine (fU.calls k a0 false _ A2.out).mono ?_);rintro e w' ⟨rfl,⟨nd,rfl⟩⟩;refine ⟨_,rfl,?_⟩));go_ret;exact ⟨by first | rfl | (simp;done) | (simp [*];done),by repeat (first | exact bA.refl _ | apply bA.step)⟩
/-! ### gQ: function 84 -/
def gQ.l0 : Nat → List Int → Int → Option (List Int)
 | 0,_,_=>none
 | k + 1,x0,x3=>if x3 > 0 then (if 0 ≤ (wrap64 (x3 - 1)) then (if (wrap64 (x3 - 1)) < (x0.length : Int) then (if (rd x0 (wrap64 (x3 - 1))) = 0 then (gQ.l0 k x0 (wrap64 (x3 - 1))) else (if 0 ≤ x3 then (if x3 ≤ (x0.length : Int) then ((jX.f (x0.take (x3 : Int).toNat)).bind fun ah2=>(some ah2)) else (none)) else (none))) else (none)) else (none)) else (if 0 ≤ x3 then (if x3 ≤ (x0.length : Int) then ((jX.f (x0.take (x3 : Int).toNat)).bind fun ah3=>(some ah3)) else (none)) else (none))
def gQ.f (k : Nat) (l0 : List Int) : Option (List Int):=gQ.l0 k l0 (l0.length : Int)
theorem gQ.calls (k : Nat) (A0 : Option Addr) (c0 : Nat) (l0 : List Int) (r : List Int) (w : World) (hr0 : Kd.C (Kd.int .i64) w A0 l0.length l0) (hc0 : l0.length ≤ c0) (H : gQ.f k l0 = some r) :
  Calls Try.prog 84 #[.slice A0 l0.length c0] w fun e w'=>∃ v0_ : Value,e = .returned (v0_)∧Kd.R (Kd.int .i64) 2 w' w.heap.size (fun _=>True) v0_ r∧Below w.heap.size w w':=by
 have HR0:=zA hr0;have HC0:=zA hc0;clear hr0 hc0;have HB:=zA (Below.refl w.heap.size w);unfold gQ.f at H;have H':=zA H;clear H;go_enter Try.func84,Try.ntmps84;go_wp2;go_loopg [3] k (fun kq v3 w'=>∃ (lv : Int),v3 = .int .i64 lv∧aa (gQ.l0 kq l0 lv = some r)∧aa (kq ≤ k)∧aa (Below w.heap.size w w'));(case atStart=>exact ⟨((l0.length : Int)),eS,H',⟨Nat.le_refl _⟩,⟨uH HB.out⟩⟩)
 case round =>
  clear H';obtain ⟨lv,rfl,HA,HK1,HB⟩:=hrel
  cases gk with
  | zero=>exact absurd HA.out (by simp [gQ.l0])
  | succ k1 =>
   have H:=HA.out;clear HA;simp only [gQ.l0] at H;replace H:=gI H;obtain ⟨c2,H⟩|⟨c2,H⟩:=H
   ·have ahl : decide (0 < lv) = false:=decide_eq_false c2;clear c2;replace H:=gN H;obtain ⟨c12,H⟩:=H;have Fu:=eq_true c12;have ax4 : decide (0 ≤ lv) = true:=decide_eq_true c12;clear c12;replace H:=gN H;obtain ⟨c13,H⟩:=H;have YF:=eq_true c13;have ax5 : decide (lv ≤ (l0.length : Int)) = true:=decide_eq_true c13;clear c13;replace H:=bO H;obtain ⟨ah3,A14,H⟩:=H;obtain rfl:=Option.some.inj H;obtain ⟨aAg,adS,_,adT,_⟩:=info_parts lh;obtain ⟨avE,anV,anW⟩:=Bp (P:=Try.prog) (Value.int .i64) 0 24 2 .i64 Try.underlying24 adS adT A0 c0 l0 lv (of_decide_eq_true (by first | (with_reducible assumption) | assumption)) (of_decide_eq_true (by first | (with_reducible assumption) | assumption)) HC0.out;have anX:=zA (Kd.yX (h1:=fun _=>rfl) (anV _ (Kd.uX HR0.out)));have anY:=zA anW;clear anV anW adS adT;go_wp2_with (first | ((with_reducible refine ag (f:=50) rfl ?_);refine zk (some 21) rfl rfl Try.func50 (by kernel_rfl) rfl #[.slice A0 (l0.take (lv : Int).toNat).length c0] rfl (by (try simp only [la,lb,lc]);first | done | (rw [show (l0.take (lv : Int).toNat).length = lv.toNat from (by rw [List.length_take];have h_ : (lv : Int) ≤ (l0.length : Int):=of_decide_eq_true (by first | (with_reducible assumption) | assumption);omega)] <;> rfl) | rfl | (simp only [ld,le];rfl)) ?_;(with_reducible refine (jX.calls _ _ (l0.take (lv : Int).toNat) ah3 _ ?side1 ?side2 A14.out).mono ?_);(case side1=>exact uC ((Kd.aW anX.out HB.out)));(case side2=>exact anY.out);rintro e w16 ⟨aAh,rfl,ho0,hb⟩;refine ⟨_,rfl,?_⟩;have anZ:=zA (Kd.aX ho0 (af (uH HB.out)));replace HB:=xH HB hb;(try clear hb);(try clear ho0)));go_ret;exact ⟨_,eX,uR anZ.out,uH HB.out⟩
   have ahl : decide (0 < lv) = true:=decide_eq_true c2;clear c2;obtain ⟨ji3,Jf⟩ : ∃ j_ : Int,(wrap64 (lv - 1)) = j_:=⟨_,rfl⟩;(first | rw [Jf] at H | simp only [Jf] at H);have am2 : (IntKind.i64.wrap (lv - 1)) = ji3:=(jW _).trans Jf;replace H:=gD H;obtain ⟨pQ,H⟩:=H;replace H:=gD H;obtain ⟨mq,H⟩:=H;replace H:=gE H;obtain ⟨c6,oP,uE,H⟩|⟨c6,oP,uE,H⟩:=H
   ·replace H:=gN H;obtain ⟨c7,H⟩:=H;have Bl:=eq_true c7;have EE : decide (0 ≤ lv) = true:=decide_eq_true c7;clear c7;replace H:=gN H;obtain ⟨c8,H⟩:=H;have yE:=eq_true c8;have Ja : decide (lv ≤ (l0.length : Int)) = true:=decide_eq_true c8;clear c8;replace H:=bO H;obtain ⟨ah2,A9,H⟩:=H;obtain rfl:=Option.some.inj H;have Qw : 0 ≤ ((ji3) : Int):=oD;have Qx : (ji3) < (l0.length : Int):=oD;obtain ⟨Ze,ah4,D9⟩:=Kd.ic HR0.out (ji3) Qw Qx;cases ah4;replace D9:=hc HB D9;replace Qw:=eq_true Qw;replace Qx:=eq_true Qx;obtain ⟨atD,M7,_,M8,_⟩:=info_parts lh;obtain ⟨W9,PE,WZ⟩:=Bp (P:=Try.prog) (Value.int .i64) 0 24 2 .i64 Try.underlying24 M7 M8 (some Ze) c0 l0 lv (of_decide_eq_true (by first | (with_reducible assumption) | assumption)) (of_decide_eq_true (by first | (with_reducible assumption) | assumption)) HC0.out;have an0:=zA (Kd.yX (h1:=fun _=>rfl) (PE _ (Kd.uX HR0.out)));have an1:=zA WZ;clear PE WZ M7 M8;go_wp2_with (first | ((with_reducible refine ag (f:=50) rfl ?_);refine zk (some 21) rfl rfl Try.func50 (by kernel_rfl) rfl #[.slice (some Ze) (l0.take (lv : Int).toNat).length c0] rfl (by (try simp only [la,lb,lc]);first | done | (rw [show (l0.take (lv : Int).toNat).length = lv.toNat from (by rw [List.length_take];have h_ : (lv : Int) ≤ (l0.length : Int):=of_decide_eq_true (by first | (with_reducible assumption) | assumption);omega)] <;> rfl) | rfl | (simp only [ld,le];rfl)) ?_;(with_reducible refine (jX.calls _ _ (l0.take (lv : Int).toNat) ah2 _ ?side1 ?side2 A9.out).mono ?_);(case side1=>exact uC ((Kd.aW an0.out HB.out)));(case side2=>exact an1.out);rintro e w11 ⟨aAi,rfl,ho0,hb⟩;refine ⟨_,rfl,?_⟩;have an2:=zA (Kd.aX ho0 (af (uH HB.out)));replace HB:=xH HB hb;(try clear hb);(try clear ho0)));go_ret;exact ⟨_,by first | rfl | (simp [gY,ib] <;> rfl) | (simp only [← Jf];first | rfl | (simp [gY,ib] <;> rfl)) | (simp [*,gY,ib] <;> rfl),uR an2.out,uH HB.out⟩
   clear c6;have H':=zA H;clear H;have Qw : 0 ≤ ((ji3) : Int):=oD;have Qx : (ji3) < (l0.length : Int):=oD;obtain ⟨Ze,ah4,D9⟩:=Kd.ic HR0.out (ji3) Qw Qx;cases ah4;replace D9:=hc HB D9;replace Qw:=eq_true Qw;replace Qx:=eq_true Qx;go_wp2;go_roundg k1;(case measure=>have:=HK1.out;omega);(case rel=>exact ⟨(ji3),(by first | rfl | (simp;done) | (simp only [← Jf] <;> (first | rfl | simp)) | (simp [*];done)),H',⟨by have:=HK1.out;omega⟩,⟨uH HB.out⟩⟩)
/-! ### dF: function 67 -/
mutual
def dF.l0 : Nat → Int → List Int → List Int → Int → List Int → Int → Option (List Int)
 | 0,_,_,_,_,_,_=>none
 | k + 1,x0,x1,x2,x3,x9,x10=>if x10 < (x1.length : Int) then (if 0 ≤ x10 then (if x10 < (x9.length : Int) then (dF.l0 k x0 x1 x2 x3 (x9.set (x10 : Int).toNat (rd x1 x10)) (wrap64 (x10 + 1))) else (none)) else (none)) else (dF.l1 k x0 x2 x3 x9 0)
def dF.l1 : Nat → Int → List Int → Int → List Int → Int → Option (List Int)
 | 0,_,_,_,_,_=>none
 | k + 1,x0,x2,x3,x9,x11=>if x11 < (x2.length : Int) then (if 0 ≤ x11 then (if x11 < (x9.length : Int) then ((jq.f x0 (wrap64 ((rd x9 x11) + (wrap64 (x3 * (rd x2 x11)))))).bind fun Zf=>(dF.l1 k x0 x2 x3 (x9.set (x11 : Int).toNat Zf) (wrap64 (x11 + 1)))) else (none)) else (none)) else ((gQ.f k x9).bind fun ah5=>(some ah5))
end
def dF.f (k : Nat) (a0 : Int) (l1 : List Int) (l2 : List Int) (a3 : Int) : Option (List Int):=if 0 ≤ (mx (l1.length : Int) (l2.length : Int)) then (if (mx (l1.length : Int) (l2.length : Int) : Int).toNat ≤ 35184372088832 then (dF.l0 k a0 l1 l2 a3 (List.replicate (mx (l1.length : Int) (l2.length : Int) : Int).toNat 0) 0) else (none)) else (none)
def dF.T9 : Bool × List (List Nat × List Nat):=(true,[([],[]),([],[]),([],[]),([],[]),([],[]),([3,4],[3,4]),([5],[5]),([],[]),([],[]),([],[]),([8,9],[8,9]),([10],[10]),([7,11],[7,11]),([6,12],[6,12]),([2,13],[2,13]),([0,1,0,1,2,3,4,5,6,7,8,9,10,11,12,13,14],[0,1]),([15,14,14,0,1,2,3,4,5,6,7,8,9,10,11,12,13,14],[14,15])])
def dF.B9 : List Nat:=[0,0,0,0,0,24,56,0,0,0,768,1792,3968,8184,16380,32767,65535]
theorem dF.UC : mf .any (opsOf Try.f67 9) = dF.T9:=by kernel_rfl
theorem dF.LX : jP dF.T9.2 dF.B9 = true:=by kernel_rfl
theorem dF.calls (k : Nat) (a0 : Int) (A1 : Option Addr) (c1 : Nat) (l1 : List Int) (A2 : Option Addr) (c2 : Nat) (l2 : List Int) (a3 : Int) (r : List Int) (w : World) (hr1 : Kd.C (Kd.int .i64) w A1 l1.length l1) (hc1 : l1.length ≤ c1) (hr2 : Kd.C (Kd.int .i64) w A2 l2.length l2) (hc2 : l2.length ≤ c2) (H : dF.f k a0 l1 l2 a3 = some r) :
  Calls Try.prog 67 #[.int .i64 a0,.slice A1 l1.length c1,.slice A2 l2.length c2,.int .i64 a3] w fun e w'=>∃ v0_ : Value,e = .returned (v0_)∧Kd.R (Kd.int .i64) 2 w' w.heap.size (fun _=>True) v0_ r∧Below w.heap.size w w':=by
 have HR1:=zA hr1;have HC1:=zA hc1;clear hr1 hc1;have HR2:=zA hr2;have HC2:=zA hc2;clear hr2 hc2;have HB:=zA (Below.refl w.heap.size w);unfold dF.f at H;obtain ⟨ji5,tu⟩ : ∃ j_ : Int,(mx (l1.length : Int) (l2.length : Int)) = j_:=⟨_,rfl⟩;(first | rw [tu] at H | simp only [tu] at H);(try (have am7 : 0 ≤ ji5:=by (rw [← tu];unfold mx;(repeat' split) <;> omega)));(try (have am8 : 0 ≤ ji5:=by omega));have Mq : (if (l1.length : Int) < (l2.length : Int) then (l2.length : Int) else (l1.length : Int)) = ji5:=tu;(try (have am9 : (if l1.length < l2.length then (l2.length : Int) else (l1.length : Int)) = ji5:=by have h_:=Mq;simpa only [Int.ofNat_lt] using h_));replace H:=gN H;obtain ⟨c6,H⟩:=H;have oP:=eq_true c6;have uE : decide (0 ≤ (ji5)) = true:=decide_eq_true c6;clear c6;replace H:=gN H;obtain ⟨c7,H⟩:=H;have Bl:=eq_true c7;have EE : decide ((ji5 : Int).toNat ≤ 35184372088832) = true:=decide_eq_true c7;clear c7;obtain ⟨avF,Zg⟩:=eY (List.replicate (ji5 : Int).toNat 0 : List Int);(try rw [←Zg.out] at H);have H':=zA H;clear H;go_enter Try.func67,Try.ntmps67;go_wp2_with (first | ((with_reducible refine aT (N:=17) rfl ?_);refine Kd.BR (Kd.int .i64) _ 2 rfl (N:=17) rfl 24 _ _ rfl ji5 rfl rfl Try.underlying24 (.int .i64 0) 8 lh rfl (by decide) (by omega) 0 (ok:=fun _=>True) (okp:=fun _=>True) rfl (fun _ hk=>hk) trivial (of_decide_eq_true (by first | (with_reducible assumption) | assumption)) (Nat.le_trans (Nat.mul_le_mul_right _ (of_decide_eq_true (by first | (with_reducible assumption) | assumption) : ji5.toNat ≤ 35184372088832)) (by omega)) (Below.refl _ _) (Nat.le_refl _) ?_;intro an3 w8 ho9 hb hg_ hnew_;clear hg_ hnew_;(first | rw [← Zg.out] at ho9 | (simp only [Int.reduceToNat] at ho9;rw [← Zg.out] at ho9));have an4:=zA (Kd.aX ho9 (af (uH HB.out)));replace HB:=xH HB hb;clear hb ho9));go_loopg [10] k (fun kq v10 w'=>∃ (nD : List Int) (gp : Int),v10 = .int .i64 gp∧aa (dF.l0 kq a0 l1 l2 a3 nD gp = some r)∧aa (kq ≤ k)∧aa (Kd.R (Kd.int .i64) 2 w' w.heap.size (fun _=>True) an3 nD)∧aa (Below w.heap.size w w'));(case atStart=>exact ⟨(avF),(0),eS,H',⟨Nat.le_refl _⟩,⟨uR an4.out⟩,⟨uH HB.out⟩⟩)
 case round =>
  clear H';(try clear c1);(try clear c2);(try clear p2);(try clear c6);(try clear oP);(try clear uE);(try clear c7);(try clear Bl);(try clear EE);obtain ⟨nD,gp,rfl,HA,HK1,jM,HB⟩:=hrel
  cases gk with
  | zero=>exact absurd HA.out (by simp [dF.l0])
  | succ k1 =>
   have H:=HA.out;clear HA;simp only [dF.l0] at H;replace H:=gF H;obtain ⟨qH,H⟩|⟨qH,H⟩:=H
   ·have H':=zA H;clear H;go_wp2;go_loopg [11] k1 (fun kq v11 w'=>∃ (IP : List Int) (mY : Int),v11 = .int .i64 mY∧aa (dF.l1 kq a0 l2 a3 IP mY = some r)∧aa (kq ≤ k1)∧aa (Kd.R (Kd.int .i64) 2 w' w.heap.size (fun _=>True) an3 IP)∧aa (Below w.heap.size w w'));(case atStart=>exact ⟨(nD),(0),eS,H',⟨Nat.le_refl _⟩,⟨uR jM.out⟩,⟨uH HB.out⟩⟩)
    case round =>
     clear H';(try clear c1);(try clear p1);(try clear q1);(try clear hx1);(try clear c2);(try clear p2);(try clear c6);(try clear oP);(try clear uE);(try clear p6);(try clear c7);(try clear Bl);(try clear EE);(try clear p9);(try clear q9);(try clear hx9);(try clear c10);(try clear qH);(try clear c11);(try clear yP);(try clear c12);(try clear Fu);(try clear p13);(try clear q13);(try clear aAj);(try clear aAk);(try clear YL);(try clear LG);(try clear p13);(try clear p2);(try clear abY);(try clear q13);(try clear abZ);obtain ⟨IP,mY,rfl,HA,HK2,jM,HB⟩:=hrel
     cases gk with
     | zero=>exact absurd HA.out (by simp [dF.l1])
     | succ k2 =>
      have H:=HA.out;clear HA;simp only [dF.l1] at H;replace H:=gF H;obtain ⟨Bw,H⟩|⟨Bw,H⟩:=H
      ·replace H:=bO H;obtain ⟨ah5,A24,H⟩:=H;obtain rfl:=Option.some.inj H;obtain ⟨afn,afo,rfl⟩:=Kd.bB jM.out;go_wp2_with (first | ((with_reducible refine ag (f:=84) rfl ?_);refine gL (some 54) Try.func84 #[.slice afn IP.length afo] ?_;(with_reducible refine (gQ.calls k2 _ _ IP ah5 _ ?side1 ?side2 A24.out).mono ?_);(case side1=>exact uC ((Kd.aM jM.out).2.2));(case side2=>exact (Kd.aM jM.out).2.1);rintro e w26 ⟨aAl,rfl,ho0,hb⟩;refine ⟨_,rfl,?_⟩;have an5:=zA (Kd.aX (nw ho0 (uR jM.out)) (af (uH HB.out)));replace jM:=zA (Kd.aJ (uR jM.out) (Kd.aG ho0) hb);replace HB:=xH HB hb;(try clear hb);(try clear ho0)));go_ret;exact ⟨_,by first | rfl | (simp [gY,ib] <;> rfl) | (simp only [← tu];first | rfl | (simp [gY,ib] <;> rfl)) | (simp [*,gY,ib] <;> rfl),uR (Kd.ah an5.out (fun _ hk=>trivial)),uH HB.out⟩
      replace H:=gD H;obtain ⟨XJ,H⟩:=H;replace H:=gD H;obtain ⟨yK,H⟩:=H;replace H:=bO H;obtain ⟨Zf,A19,H⟩:=H;obtain ⟨avG,adU⟩:=eY (IP.set (mY : Int).toNat Zf : List Int);(try rw [←adU.out] at H);have H':=zA H;clear H;(try go_wp2);replace jM:=zA (Kd.iV jM.out);replace HB:=zA (aZ HB.out);obtain ⟨xU,wU,YQ⟩:=Kd.bB jM.out;(first | subst YQ | (injection YQ with f1_ f2_ f3_;have f4_:=f1_.symm;have f5_:=f3_.symm;clear f1_ f2_ f3_;subst f4_;subst f5_));have ah6 : 0 ≤ (mY : Int):=oD;have ah7 : mY < (IP.length : Int):=oD;obtain ⟨an6,avH,LH⟩:=Kd.ic (Kd.aM jM.out).2.2 mY ah6 ah7;cases avH;replace ah6:=eq_true ah6;replace ah7:=eq_true ah7;have ah8 : 0 ≤ (mY : Int):=oD;have ah9 : mY < (l2.length : Int):=oD;obtain ⟨an7,avI,Gs⟩:=Kd.ic HR2.out mY ah8 ah9;have SI:=Gs;cases avI;replace Gs:=hc HB Gs;replace ah8:=eq_true ah8;replace ah9:=eq_true ah9;refine kF (n:=17) (S:=fun w'=>w'.cell? (an6.add (mY).toNat) = some (.int .i64 (rd IP mY))∧w'.cell? (an7.add (mY).toNat) = some (.int .i64 (rd l2 mY))) (ds:=[16]) #[false,false,false,false,false,false,false,false,false,false,false,false,false,false,false,false,false] (by kernel_rfl) rfl rfl ⟨LH,(hcu HB SI)⟩ (fun hHeld=>?_);refine gX dF.UC dF.LX (fun HT_ HW_=>?_);generalize wr.drew = w21 at jM HB LH Gs hHeld ⊢;refine pu_ 0 37 (bl 17 1) HT_ ?_;refine pu_ 1 38 (bl 17 3) HT_ ?_;refine pu_ 2 39 (bl 17 7) HT_ ?_;refine pu_ 3 40 (bl 17 15) HT_ ?_;refine pu_ 4 41 (bl 17 31) HT_ ?_;refine pu_ 5 42 (bl 17 63) HT_ ?_;refine pu_ 7 44 (bl 17 191) HT_ ?_;refine pu_ 8 45 (bl 17 447) HT_ ?_;refine pu_ 9 46 (bl 17 959) HT_ ?_;refine pu_ 10 47 (bl 17 1983) HT_ ?_;refine ta_ 6 43 (bl 17 2047) HT_ HW_ hHeld ?_;refine ta_ 11 48 (bl 17 4095) HT_ HW_ hHeld ?_;refine pu_ 12 49 (bl 17 8191) HT_ ?_;refine pu_ 13 50 (bl 17 16383) HT_ ?_;refine on_ 14 (some 51) (bl 17 32767) HT_ (fun K hK=>?_);refine gS Try.func68 #[.int .i64 a0,.int .i64 (wrap64 ((rd IP mY) + (wrap64 (a3 * (rd l2 mY)))))] ?_;(with_reducible refine (jq.calls a0 (wrap64 ((rd IP mY) + (wrap64 (a3 * (rd l2 mY))))) Zf _ A19.out).mono ?_);rintro e w' ⟨rfl,⟨nd,rfl⟩⟩;refine ⟨_,rfl,?_⟩;have p20 : 0 ≤ (mY : Int):=oD;have q20 : (mY : Int) < ((IP.length : Int) : Int):=oD;obtain ⟨aAm,aju,an8,an9,avJ,aAn,aoa⟩:=Kd.yB jM.out (by omega);(first | cases an8 | (injection an8 with ea_ en_ ec_;(first | subst ea_ | (injection ea_ with ea_;subst ea_));subst ec_;clear en_));have avK:=zA an9;have:=geI avK;have aAo:=zA aoa;clear an9 avJ aoa;(first | simp only [add_plain] at LH | skip);obtain ⟨avL,avM⟩:=Kd.uj 0 jM.out (mY : Int) p20 q20;replace p20:=eq_true p20;replace q20:=eq_true q20;have aia:=Kd.OH jM.out (mY : Int) Zf;rw [← adU.out] at aia;have avN:=zA aia;clear aia;refine hK.out _ _ ⟨hHeld.1,(hcu HB SI)⟩ (fun hHeld=>?_);clear hK K;refine no_ 51 ?_;refine pu_ 15 52 (bl 17 65535) HT_ ?_;refine Bt (i:=16) (N:=none) (bl 17 131071) rfl rfl (wF HT_.out (by kernel_rfl)) (by decide) (fun K hK=>?_);refine uL (w1:=?_) (by rfl) rfl ?_ ?_;rotate_left
      ·go_simp;rfl
      refine hK.out _ _ ?_;clear hK K;refine done_ (done_of HT_.out (by kernel_rfl)) ?_;(try go_wp2);go_roundg k2;(case measure=>have:=HK1.out;have:=HK2.out;omega);(case rel=>exact ⟨(avG),(wrap64 (mY + 1)),eS,H',⟨by have:=HK1.out;have:=HK2.out;omega⟩,⟨uR avN.out⟩,⟨uH HB.out⟩⟩)
   replace H:=gD H;obtain ⟨yP,H⟩:=H;replace H:=gD H;obtain ⟨Fu,H⟩:=H;obtain ⟨aob,adV⟩:=eY (nD.set (gp : Int).toNat (rd l1 gp) : List Int);(try rw [←adV.out] at H);have H':=zA H;clear H;have abY : 0 ≤ (gp : Int):=oD;have abZ : gp < (l1.length : Int):=oD;obtain ⟨ax6,avO,LG⟩:=Kd.ic HR1.out gp abY abZ;cases avO;replace LG:=hc HB LG;replace abY:=eq_true abY;replace abZ:=eq_true abZ;have p13 : 0 ≤ (gp : Int):=oD;have q13 : (gp : Int) < ((nD.length : Int) : Int):=oD;obtain ⟨IK,vD,Qj,YI,ahw,au9,YJ⟩:=Kd.yB jM.out (by omega);(first | cases Qj | (injection Qj with ea_ en_ ec_;(first | subst ea_ | (injection ea_ with ea_;subst ea_));subst ec_;clear en_));have YK:=zA YI;have:=geI YK;have ava:=zA YJ;clear YI ahw YJ;obtain ⟨YL,ahx⟩:=Kd.uj 0 jM.out (gp : Int) p13 q13;replace p13:=eq_true p13;replace q13:=eq_true q13;have aib:=Kd.GU jM.out (gp : Int) (rd l1 gp);go_wp2_with (first | ((with_reducible refine qB (t:=2) (p:=30) rfl ?_);refine pq (t:=2) (p:=30) (v:=?avP) (w1:=(wr.setCell ⟨IK,(gp : Int).toNat,none⟩ (.int .i64 (rd l1 gp)))) ?hg ?ho ?hn ?hr ?_;(case ho=>rfl);(case hg=>rfl);(case hn=>rfl);(case hr=>first | (go_simp;done) | (go_simp;rfl));intro w15 hw;have hg : wr.grownBy w15 (some IK):=(by rw [hw];exact aib.2);have hp_ : Kd.R (Kd.int .i64) 2 w15 w.heap.size (fun _=>True) (.slice (some ⟨IK,0,none⟩) nD.length vD) aob:=(by rw [hw,adV.out];exact aib.1);clear aib;replace jM:=zA (hp_);replace HB:=zA ((by rw [hw];exact lC (HB.out) YK.out : Below w.heap.size w w15));clear hg hw hp_));go_roundg k1;(case measure=>have:=HK1.out;omega);(case rel=>exact ⟨(aob),(wrap64 (gp + 1)),eS,H',⟨by have:=HK1.out;omega⟩,⟨uR jM.out⟩,⟨uH HB.out⟩⟩)
end Go.Proofs.Ytnpepkpogohcmaa.Pr
