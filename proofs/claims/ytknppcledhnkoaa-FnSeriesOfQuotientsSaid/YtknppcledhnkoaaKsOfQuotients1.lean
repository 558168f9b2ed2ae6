/- Texts of this session in one: what functions of the program compute, and plain facts of it, under the conditions that each theorem names. -/
import Derived.ArgAppend
import Derived.Below
import Derived.BigQuiet
import Derived.Deep.AppendLies
import Derived.Deep.CutBlock
import Derived.Deep.DeepCutAuto
import Derived.Deep.Draws
import Derived.Deep.LoopGhost
import Derived.Deep.OwnRows
import Derived.Deep.QuietTactic
import Derived.Deep.RegionHeld3
import Derived.KernelRfl
import Derived.Laws.BitsLemmas
import Derived.Laws.BytesArg
import Derived.Laws.IdiomCopy
import Derived.Laws.MakeOwn
import Derived.Laws.OwnMore
import Derived.Laws.Rows
import Derived.Laws.Slices
import Derived.Lib.AppendStr
import Derived.Lib.ConvBytes
import Derived.Maps.AppendAt
import Derived.OrdersHeld
import Derived.OwnWalk
import Derived.RowKit
import Derived.RowKit3
import Derived.Shelf.Abstract
import Derived.Tactics
import Derived.Test.YtknppcledhnkoaaProg
import Derived.WalkKit
import Derived.WalkSpells
import Derived.WideLaws
import Derived.Test.YtknppcledhnkoaaKWApart
import Derived.Test.YtknppcledhnkoaaKWArr
import Derived.Test.YtknppcledhnkoaaKWAt
import Derived.Test.YtknppcledhnkoaaKWEqStruct
import Derived.Test.YtknppcledhnkoaaKWFoot
import Derived.Test.YtknppcledhnkoaaKWFootNe
import Derived.Test.YtknppcledhnkoaaKWFour
import Derived.Test.YtknppcledhnkoaaKWGuard
import Derived.Test.YtknppcledhnkoaaKWInv
import Derived.Test.YtknppcledhnkoaaKWInvWords
import Derived.Test.YtknppcledhnkoaaKWKept
import Derived.Test.YtknppcledhnkoaaKWLast
import Derived.Test.YtknppcledhnkoaaKWMore
import Derived.Test.YtknppcledhnkoaaKWN
import Derived.Test.YtknppcledhnkoaaKWNEv
import Derived.Test.YtknppcledhnkoaaKWQPut
import Derived.Test.YtknppcledhnkoaaKWRepsOne
import Derived.Test.YtknppcledhnkoaaKWShare
import Derived.Test.YtknppcledhnkoaaKWTab
import Derived.Test.YtknppcledhnkoaaKWWords
import Derived.Test.YtknppcledhnkoaaKWZeros
namespace Go.Proofs.Ytknppcledhnkoaa.Pr
/- Function values: what a caller is told of a value of function type (its call answers as a plain function says), and one step of a walk that calls it. -/
open Go.RowKit Go.Proofs.YtknppcledhnkoaaW.PrintWords Go.Proofs.YtknppcledhnkoaaW.PrintLast Go.Proofs.YtknppcledhnkoaaW.PrintMore
section
variable {P : Program} {w W : World} {F : Value}

/-- F is a function value that takes nothing and answers b in every later world. -/
def FnB (P : Program) (w : World) (F : Value) (b : Bool) : Prop :=
  ∃ (g : FuncId) (fi ca : Array Value),F = .func (.func g) fi ca∧Enters P g ∧
    ∀ W,Below w.heap.size w W → Calls P g (fi ++ ca) W fun e W'=>e = .returned (.bool b)∧Below W.heap.size W W'
/-- F is a function value that takes a whole number x and answers f x. -/
def FnI (P : Program) (w : World) (F : Value) (f : Int → Option Bool) : Prop :=
  ∃ (g : FuncId) (fi ca : Array Value),F = .func (.func g) fi ca∧Enters P g ∧
    ∀ x r,f x = some r → ∀ W,Below w.heap.size w W → Calls P g (fi ++ #[.int .i64 x] ++ ca) W fun e W'=>e = .returned (.bool r)∧Below W.heap.size W W'
/-- F is a function value that takes a list l of whole numbers and answers f l. -/
def FnL (P : Program) (w : World) (F : Value) (f : List Int → Option Bool) : Prop :=
  ∃ (g : FuncId) (fi ca : Array Value),F = .func (.func g) fi ca∧Enters P g ∧
    ∀ l r A c,f l = some r → ∀ W,Below w.heap.size w W → Kd.C (Kd.int .i64) W A l.length l → l.length ≤ c →
      Calls P g (fi ++ #[.slice A l.length c] ++ ca) W fun e W'=>e = .returned (.bool r)∧Below W.heap.size W W'

theorem FnB.of {g : FuncId} {fn : Func} (hf : P.funcs[g]? = some fn) (hn : (fn.name == "runtime.NumGoroutine") = false) (hb : fn.body.isSome = true := by rfl) {fi ca : Array Value} {b : Bool}
    (h : ∀ W,Below w.heap.size w W → Calls P g (fi ++ ca) W fun e W'=>e = .returned (.bool b)∧Below W.heap.size W W') : FnB P w (.func (.func g) fi ca) b :=
  ⟨g,fi,ca,rfl,fun args W=>rJ hf hn hb args W,h⟩
theorem FnI.of {g : FuncId} {fn : Func} (hf : P.funcs[g]? = some fn) (hn : (fn.name == "runtime.NumGoroutine") = false) (hb : fn.body.isSome = true := by rfl) {fi ca : Array Value} {f : Int → Option Bool}
    (h : ∀ x r,f x = some r → ∀ W,Below w.heap.size w W → Calls P g (fi ++ #[.int .i64 x] ++ ca) W fun e W'=>e = .returned (.bool r)∧Below W.heap.size W W') : FnI P w (.func (.func g) fi ca) f :=
  ⟨g,fi,ca,rfl,fun args W=>rJ hf hn hb args W,h⟩
theorem FnL.of {g : FuncId} {fn : Func} (hf : P.funcs[g]? = some fn) (hn : (fn.name == "runtime.NumGoroutine") = false) (hb : fn.body.isSome = true := by rfl) {fi ca : Array Value} {f : List Int → Option Bool}
    (h : ∀ l r A c,f l = some r → ∀ W,Below w.heap.size w W → Kd.C (Kd.int .i64) W A l.length l → l.length ≤ c →
      Calls P g (fi ++ #[.slice A l.length c] ++ ca) W fun e W'=>e = .returned (.bool r)∧Below W.heap.size W W') : FnL P w (.func (.func g) fi ca) f :=
  ⟨g,fi,ca,rfl,fun args W=>rJ hf hn hb args W,h⟩

theorem FnI.later {F : Value} {f : Int → Option Bool} (hb : Below w.heap.size w W) (h : FnI P w F f) : FnI P W F f:=by
  obtain ⟨g,fi,ca,e,he,h⟩:=h
  exact ⟨g,fi,ca,e,he,fun x r hr W2 h2=>h x r hr W2 (hb.trans (h2.mono hb.size))⟩
theorem FnL.later {F : Value} {f : List Int → Option Bool} (hb : Below w.heap.size w W) (h : FnL P w F f) : FnL P W F f:=by
  obtain ⟨g,fi,ca,e,he,h⟩:=h
  exact ⟨g,fi,ca,e,he,fun l r A c hr W2 h2=>h l r A c hr W2 (hb.trans (h2.mono hb.size))⟩
end
/- Short names for what the printed walks spell out: facts of a world hold in each world that comes of it by new blocks and drawn numbers; no condition. -/
open Go Go.RowKit Go.Proofs.YtknppcledhnkoaaW.PrintWords Go.Proofs.YtknppcledhnkoaaW.PrintLast Go.Proofs.YtknppcledhnkoaaW.PrintMore
/-- `w` comes of `w0` by new blocks and drawn numbers alone. -/
class Up (w0 w : World) : Prop where
  up : Below w0.heap.size w0 w
instance Up.refl (w : World) : Up w w:=⟨Below.refl _ _⟩
instance Up.alloc (w0 w : World) (o : Obj) [u : Up w0 w] : Up w0 (w.alloc o):=⟨dF u.up o⟩
instance Up.drew (w0 w : World) [u : Up w0 w] : Up w0 w.drew:=⟨bG u.up⟩
instance Up.drewN (w0 w : World) (n : Nat) [u : Up w0 w] : Up w0 (w.drewN n):=⟨bQ u.up n⟩
instance Up.setDrewN (w0 w : World) (n : Nat) (a : Addr) (v : Value) [u : Up w0 (w.setCell a v)] : Up w0 ((w.drewN n).setCell a v):=⟨⟨u.up.os,u.up.tape,u.up.output,u.up.size,u.up.block⟩⟩
instance Up.setDrew (w0 w : World) (a : Addr) (v : Value) [u : Up w0 (w.setCell a v)] : Up w0 (w.drew.setCell a v):=⟨⟨u.up.os,u.up.tape,u.up.output,u.up.size,u.up.block⟩⟩
/-- The block lies behind the border. -/
class Geq (b g : Nat) : Prop where
  geq : b ≤ g
theorem geI {b g : Nat} (h : ay (b ≤ g)) : Geq b g:=⟨h.out⟩
/-- The same, and cells of own blocks may be set. -/
class UpS (b : Nat) (w0 w : World) : Prop where
  up : ∀ {w1 : World},b = w1.heap.size → Below b w1 w0 → Below b w1 w
instance UpS.refl (b : Nat) (w : World) : UpS b w w:=⟨fun _ h=>h⟩
instance UpS.alloc (b : Nat) (w0 w : World) (o : Obj) [u : UpS b w0 w] : UpS b w0 (w.alloc o):=⟨by rintro w1 rfl h;exact dF (u.up rfl h) o⟩
instance UpS.drew (b : Nat) (w0 w : World) [u : UpS b w0 w] : UpS b w0 w.drew:=⟨fun e h=>bG (u.up e h)⟩
instance UpS.drewN (b : Nat) (w0 w : World) (n : Nat) [u : UpS b w0 w] : UpS b w0 (w.drewN n):=⟨fun e h=>bQ (u.up e h) n⟩
instance UpS.setCell (b : Nat) (w0 w : World) (g j : Nat) (v : Value) [u : UpS b w0 w] [q : Geq b g] : UpS b w0 (w.setCell ⟨g,j,none⟩ v):=⟨by rintro w1 rfl h;exact fH (u.up rfl h) q.geq⟩
section
variable {α : Type} {d : Kd α} {e : Nat} {w0 w w1 : World} {base : Nat} {ok : Nat → Prop} {v : Value} {xs : List α}
theorem uR (h : d.R e w0 base ok v xs) [u : Up w0 w] : d.R e w base ok v xs:=Kd.qI h u.up
theorem uC {A : Option Addr} {n : Nat} (h : d.C w0 A n xs) [u : Up w0 w] : d.C w A n xs:=Kd.gX h u.up
theorem uB {g : Nat} {o : Obj} (h : w0.heap[g]? = some o) [u : Up w0 w] : w.heap[g]? = some o:=iF h u.up
theorem uH (h : Below w1.heap.size w1 w0) [u : UpS w1.heap.size w0 w] : Below w1.heap.size w1 w:=u.up rfl h
theorem zA {p : Prop} (h : p) : ay p:=ay.mk h
theorem xB {g : Nat} {o : Obj} (h : ay (w0.heap[g]? = some o)) (hb : Below w.heap.size w w1) [u : Up w0 w] : ay (w1.heap[g]? = some o):=zA (iF (iF h.out u.up) hb)
theorem xR (h : ay (d.R e w0 base ok v xs)) (hb : Below w.heap.size w w1) [u : Up w0 w] : ay (d.R e w1 base ok v xs):=zA (Kd.qI (Kd.qI h.out u.up) hb)
theorem xH {W : World} (h : ay (Below W.heap.size W w0)) (hb : Below w.heap.size w w1) [u : UpS W.heap.size w0 w] : ay (Below W.heap.size W w1):=zA (dY (u.up rfl h.out) hb)
theorem neL {g : Nat} {o : Obj} (h : ay (w0.heap[g]? = some o)) [u : Up w0 w] : g ≠ w.heap.size:=Nat.ne_of_lt (qw (iF h.out u.up))
theorem neG {g : Nat} {o : Obj} (h : ay (w0.heap[g]? = some o)) [u : Up w0 w] : w.heap.size ≠ g:=Nat.ne_of_gt (qw (iF h.out u.up))
end
section
variable {α β : Type} {f : α → β} {x a : α} {l : List α} {i : Nat}
theorem la : Array.map f l.toArray = (l.map f).toArray:=List.map_toArray
theorem lb : List.map f (a :: l) = f a :: List.map f l:=List.map_cons
theorem lc : List.map f [] = []:=List.map_nil
theorem ld : (l.drop i).length = l.length - i:=List.length_drop
theorem le : (l.take i).length = min i l.length:=List.length_take
theorem ls (l : List α) (i : Nat) (a : α) : l.toArray.setIfInBounds i a = (l.set i a).toArray:=List.setIfInBounds_toArray l i a
theorem lz : (x :: l).set 0 a = a :: l:=List.set_cons_zero
theorem ln : (x :: l).set (i + 1) a = x :: l.set i a:=List.set_cons_succ
end
/-- What copy(xs, ys) makes of xs. -/
def cpy (xs ys : List Int) : List Int:=ys.take (min ys.length xs.length) ++ xs.drop (min ys.length xs.length)
section
variable {P : Program} {ops : Array Oper} {rest : List Oper} {o : Oper} {a : Act} {Q : Exit → Act → World → Prop}
theorem zM {k : IntKind} {w0 W : World} (base : Nat) (hgd : o.guard = none) (s x : Operand) (t t' e : TypeId)
    (ho : o.op = .call { callee:=.builtin .copy,args:=#[s,x],argTypes:=#[t,t'] }) (ht : P.underlying t = some (.slice e)) (z : Value) (bytes : Nat) (hinfo : (P.info? e).map (fun i=>(i.zero,i.size,i.bytes)) = some (some z,1,bytes))
    (v : Value) (xs ys : List Int) (A : Option Addr) (m c : Nat) (ok : Nat → Prop) (hs : a.eval s = v) (hx : a.eval x = .slice A m c)
    (HO : (Kd.int k).R e W base ok v xs) (HR : (Kd.int k).C W A m ys) (HB : Below base w0 W) (hbase : base ≤ W.heap.size)
    (h : ∀ w1,(Kd.int k).R e w1 base ok v (cpy xs ys) → Below base w0 w1 → W.grownBy w1 v.ownBlock → (v.ownBlock = v.ownBlock ∨ ∃ b,v.ownBlock = some b∧W.heap.size ≤ b) → wpList P ops Q rest (a.put o.dst (.int .i64 ((min m xs.length : Nat) : Int))) w1) :
    wpList P ops Q (o :: rest) a W:=by
  have hm : ys.length = m:=Kd.Il HR
  subst hm
  have hi : (P.info? e).map (·.size) = some 1:=by
    obtain ⟨i0,hi,hz⟩:=Option.map_eq_some_iff.1 hinfo
    simp only [Prod.mk.injEq] at hz
    rw [hi,Option.map_some,hz.2.1]
  exact Kd.GH (h1:=fun _=>rfl) (0 : Int) base hgd s x t t' e ho ht hi v xs ys A ys.length c ok hs hx HO HR HB hbase (fun w1 h1 h2 h3=>h w1 h1 h2 h3 (.inl rfl))
end
attribute [local go_sem] kK kL lQ lS jV jW kM kN   -- for this text's walks alone
set_option linter.unusedVariables false
set_option linter.unusedSimpArgs false
def Km : Option Int → Value
  | none => .nilIface
  | some c => .iface 0 (.int .i64 c)
theorem jr : (Try.prog.info? 2).map (fun i => (i.zero, i.size, i.bytes)) = some (some (.int .i64 0), 1, 8) := by kernel_rfl
theorem oL : (Try.prog.info? 24).map (fun i => (i.zero, i.size, i.bytes)) = some (some (.slice none 0 0), 1, 24) := by kernel_rfl
-- the values' own types
def dA (xs : List (List Int)) (i : Int) : (List Int) := xs.getD i.toNat ([] : List Int)
theorem jC {w : World} {A : Option Addr} {n : Nat} {xs : List (List Int)} (h : Kd.C (Kd.slice 2 (Kd.int .i64)) w A n xs) (i : Int) (h0 : 0 ≤ i) (h1 : i < n) : ∃ ad A0 c0, A = some ad ∧ w.cell? (ad.add i.toNat) = some (.slice A0 (dA xs i).length c0) ∧ (dA xs i).length ≤ c0 ∧ (Kd.int .i64).C w A0 (dA xs i).length (dA xs i) := by
  obtain ⟨ad, c, e, _, hK, hc0⟩ := Kd.AR h ([] : List Int) i h0 h1
  have hc : ∀ j u, c[j]? = some u → w.cell? (ad.add (i.toNat * 1 + j)) = some u := hc0
  obtain ⟨A0, c0, rfl, l0, g0⟩ := hK
  exact ⟨ad, A0, c0, e, by have hq := hc 0 _ rfl; rwa [Nat.mul_one, Nat.add_zero] at hq, l0, g0⟩

def J7 (xs : List (List (List Int))) (i : Int) : (List (List Int)) := xs.getD i.toNat ([] : List (List Int))
/- slices.Clone at []int64: a new row with the same numbers (nil stays nil). -/
def gp.f (l : List Int) : Option (List Int):=if l.length < 17592186044416 then some l else none

set_option maxHeartbeats 8000000 in
set_option maxRecDepth 100000 in
theorem gp.calls (A0 : Option Addr) (c0 : Nat) (l0 : List Int) (r : List Int) (w : World) (hr0 : Kd.C (Kd.int .i64) w A0 l0.length l0) (hc0 : l0.length ≤ c0) (h : gp.f l0 = some r) :
    Calls Try.prog 143 #[.slice A0 l0.length c0] w fun e w'=>∃ v0_ : Value,e = .returned (v0_)∧Kd.R (Kd.int .i64) 2 w' w.heap.size (fun _=>True) v0_ r∧Below w.heap.size w w':=by
  have hnil : ∀ (W : World) (a : Option Addr) (n c : Nat),(Go.binOp .eql 24 (.slice a n c) (.slice none 0 0)).run Try.prog W = .ok (.bool a.isNone) W:=fun W a n c=>Lib.run_eql_slice_nil W 24 2 a n c 0 0 Try.underlying24
  unfold gp.f at h
  split at h
  case isFalse=>cases h
  rename_i c2
  obtain rfl:=Option.some.inj h
  clear h
  have HR0:=ay.mk hr0
  have HC0:=ay.mk hc0
  clear hr0 hc0
  have HB:=ay.mk (Below.refl w.heap.size w)
  have JI:=ay.mk c2
  clear c2
  cases A0 with
  | none =>
    have hl : l0 = []:=by
      rcases l0 with _ | ⟨x,l⟩
      · rfl
      · obtain ⟨ad,e,_⟩:=Kd.dn HR0.out 0 (by omega) (by simp only [List.length_cons];omega)
        cases e
    subst hl
    go_enter Try.func143,Try.ntmps143
    go_wp2
    go_ret
    exact ⟨_,rfl,Kd.lL _ _ _ _ _,HB.out⟩
  | some ad0 =>
    obtain ⟨Im,FP⟩ : ∃ y_ : List Int,y_ = (([] : List Int)):=⟨_,rfl⟩
    have AU:=ay.mk FP
    clear FP
    obtain ⟨JJ,FQ⟩ : ∃ y_ : List Int,y_ = (Im ++ l0):=⟨_,rfl⟩
    have FR:=ay.mk FQ
    clear FQ
    go_enter Try.func143,Try.ntmps143
    go_wp2_with (first | ((with_reducible refine bW (N:=5) rfl ?_);refine Kd.wQ (Kd.int .i64) _ 2 ?hg (N:=5) ?hd (xs:=([] : List Int)) (inner:=[]) (ok:=fun _=>True) (okp:=fun _=>True) ?hr ?hp (fun _ hk=>hk) trivial (Below.refl _ _) (Nat.le_refl _) (by simp) ?_;(case hd=>rfl);(case hg=>rfl);(case hr=>first | (go_simp;done) | (go_simp;rfl));(case hp=>exact (fG.none _ _));intro JK w3 ho4 hb hg_ hnew_;clear hg_ hnew_;(first | rw [← AU.out] at ho4 | (simp only [Int.reduceToNat] at ho4;rw [← AU.out] at ho4));have n0_:=ay.mk (Kd.iL ho4 (aC (by repeat (first | (with_reducible first | exact HB.out | apply dF | apply bQ | apply bG) | exact HB.out))));have n1_:=ay.mk (dY (by repeat (first | (with_reducible first | exact HB.out | apply dF | apply bQ | apply bG) | exact HB.out)) hb);clear HB;have FT:=n0_;have HB:=n1_;clear n0_ n1_;clear hb ho4) | ((with_reducible refine dX (b:=.append) (xs:=#[.tmp 5,.tmp 6]) rfl ?_);at_builtin;refine Kd.mV (Kd.int .i64) (w0:=w) w.heap.size rfl (.tmp 5) (.tmp 6) 24 2 (.int .i64 0) 8 rfl Try.underlying24 jr rfl (by decide) (by omega) JK Im l0 _ _ _ (fun _=>True) (fun _=>False) rfl rfl ?aO ?aR (fun _ _ h=>h) (fun _ h=>h.elim) ?aF ?aB ?aS ?aL ?_;(case aR=>repeat (first | exact (Kd.gX HR0.out HB.out) | (with_reducible refine Kd.C_alloc ?_ _) | (with_reducible refine Kd.C_drewN ?_ _) | (with_reducible refine Kd.C_drew ?_)));(case aB=>exact (by repeat (first | (with_reducible first | exact HB.out | apply dF | apply bQ | apply bG) | exact HB.out)));(case aF=>exact (fun _ _=>trivial));(case aO=>exact (by (with_reducible repeat (first | apply Kd.R_alloc | apply Kd.jy | apply Kd.jT));exact FT.out));(case aS=>exact (aC (by repeat (first | (with_reducible first | exact HB.out | apply dF | apply bQ | apply bG) | exact HB.out))));(case aL=>have:=JI.out;have e:=AU.out;rw [e];simp;omega);intro Kn w5 ho hb hg hat;rw [← FR.out] at ho;have n0_:=ay.mk (hb);have n1_:=ay.mk (ho);clear HB;clear FT;have HB:=n0_;have Io:=n1_;clear n0_ n1_;clear ho hb hg hat))
    go_ret
    have e : l0 = JJ:=by rw [FR.out,AU.out];rfl
    rw [e]
    exact ⟨_,rfl,by (with_reducible repeat (first | apply Kd.R_alloc | apply Kd.jy | apply Kd.jT));exact Io.out,by repeat (first | (with_reducible first | exact HB.out | apply dF | apply bQ | apply bG) | exact HB.out)⟩
/- Short steps of a walk through a region whose order is drawn (each stands for a row that the print spells out); no condition. -/
/-- The lowest n bits of m. -/
def bq : Nat → Nat → List Bool
  | 0,_=>[]
  | n + 1,m=>(m % 2 == 1) :: bq n (m / 2)
def bl (n m : Nat) : Array Bool:=⟨bq n m⟩
section
variable {P : Program} {ops : Array Oper} {Q : Exit → Act → World → Prop} {S : World → Prop} {ds : List Nat} {T : Bool × List (List Nat × List Nat)} {B : List Nat} {fuel : Nat} {l : Array Bool} {a a' : Act} {w : World} {oi : Oper} {v : Value}
theorem pu_ (i : Nat) (N : Tmp) (l' : Array Bool) (HT : ay (kr .any ops = T)) (h : cZ P .any ops Q S ds fuel l' a' w)
    (hi : ops[i]? = some oi:=by rfl) (hN : oi.dst = some N:=by rfl) (hc : CP T l.toList l'.toList i = true:=by kernel_rfl)
    (hQ : ∀ c a w,Q (.panic c) (a.put oi.dst v) w → Q (.panic c) a w:=by exact fun _ _ _ h=>h)
    (hy : Yields P ops oi v a:=by exact Or.inl ⟨by rfl,by intro w';go_simp;with_reducible rfl⟩)
    (ha : a.put (some N) v = a':=by (simp only [Act.put,ls,lz,ln,eT,iw];rfl)) : cZ P .any ops Q S ds (fuel + 1) l a w :=
  G5 l' hi hN (F9 HT.out hc) hQ hy ha h
theorem ta_ (i : Nat) (N : Tmp) (l' : Array Bool) (HT : ay (kr .any ops = T)) (HW : ay (jw T.2 B = true)) (hS : S w) (h : cZ P .any ops Q S ds fuel l' a' w)
    (hi : ops[i]? = some oi:=by rfl) (hN : oi.dst = some N:=by rfl) (hc : CR T B ds l.toList l'.toList i = true:=by kernel_rfl)
    (hQ : ∀ c a w,Q (.panic c) (a.put oi.dst v) w → Q (.panic c) a w:=by exact fun _ _ _ h=>h)
    (hy : YieldsIf P ops S oi v a:=by exact Or.inl ⟨by rfl,by intro w' hs;go_simp;with_reducible rfl⟩)
    (ha : a.put (some N) v = a':=by (simp only [Act.put,ls,lz,ln,eT,iw];rfl)) : cZ P .any ops Q S ds (fuel + 1) l a w :=
  zX l' hi hN (yo HT.out HW.out hc) hQ hy hS ha h
theorem on_ (i : Nat) (N : Option Tmp) (l' : Array Bool) (HT : ay (kr .any ops = T))
    (h : ∀ K : Act → World → Prop,Shut (∀ a' w',S w' → (S w' → cZ P .any ops Q S ds fuel l' a' w') → K a' w') → if Region.wanted oi (yielded ops a.tmps) = true then Oper.wp P oi a w K Q else K (a.put N undef) w)
    (hi : ops[i]? = some oi:=by rfl) (hN : oi.dst = N:=by rfl) (hc : (rq T.2 l.toList == [i] && l.toList.set i true == l'.toList) = true:=by kernel_rfl) (hd : i ∉ ds:=by decide) : cZ P .any ops Q S ds (fuel + 1) l a w :=
  G6 l' hi hN (lV HT.out hc) hd h
theorem no_ {a0 : Act} (N : Tmp) (h : cZ P .any ops Q S ds fuel l a' w) (ha : a0.put (some N) v = a':=by (simp only [Act.put,ls,lz,ln,eT,iw];rfl)) : cZ P .any ops Q S ds fuel l (a0.put (some N) v) w:=tZ ha h
end
/- More short forms of what the printed walks spell out; no condition. -/
/-- The block k is not the row v's own. -/
abbrev ax (k : Nat) (v : Value) : Prop:=some k ≠ v.ownBlock
theorem bc {w : World} {g : Nat} {t : TypeId} {cs : Array Value} (h : ay (w.heap[g]? = some (.cells cs t (0,0)))) (i : Nat) {v : Value} (hv : cs[i]? = some v:=by rfl) : w.cell? ⟨g,i,none⟩ = some v:=(jq h.out i).trans hv
theorem bcu {w0 w : World} {g : Nat} {t : TypeId} {cs : Array Value} (h : ay (w0.heap[g]? = some (.cells cs t (0,0)))) (i : Nat) {v : Value} [u : Up w0 w] (hv : cs[i]? = some v:=by rfl) : w.cell? ⟨g,i,none⟩ = some v:=(jq (uB h.out) i).trans hv
theorem bf {w : World} {g : Nat} {t : TypeId} {cs : Array Value} (h : ay (w.heap[g]? = some (.cells cs t (0,0)))) (i : Nat) : w.frozen? ⟨g,i,none⟩ = false:=lX h.out i
theorem gq {b w w0 : World} {g : Nat} (HB : ay (Below b.heap.size b w0)) (hg : g = w.heap.size) [u : UpS b.heap.size w0 w] : ay (b.heap.size ≤ g):=⟨by rw [hg];exact aC (u.up rfl HB.out)⟩
theorem hc {b w : World} {p : Addr} {v : Value} (HB : ay (Below b.heap.size b w)) (h : b.cell? p = some v) : w.cell? p = some v:=(HB.out.cell (World.block_lt_of_cell? b p h)).trans h
theorem hcu {b w0 w : World} {p : Addr} {v : Value} (HB : ay (Below b.heap.size b w0)) (h : b.cell? p = some v) [u : UpS b.heap.size w0 w] : w.cell? p = some v:=((u.up rfl HB.out).cell (World.block_lt_of_cell? b p h)).trans h
section
variable {P : Program} {ops : Array Oper} {Q : Exit → Act → World → Prop} {rest : List Oper} {oi : Oper} {a : Act} {w : World} {f : FuncId} {fn : Func} {az : Array Operand} {ts : Array TypeId}
theorem gL (N : Option Tmp) (hf : P.funcs[f]? = some fn) (args : Array Value) (h : Calls P f args w fun e w'=>∃ v,e = .returned v∧wpList P ops Q rest (a.put N v) w')
    (hd : oi.dst = N := by rfl) (hg : oi.guard = none := by rfl) (hname : (fn.name == "runtime.NumGoroutine") = false := by kernel_rfl) (hb : fn.body.isSome = true := by rfl)
    (hop : oi.op = .call { callee:=.value (.func f),args:=az,argTypes:=ts }:=by rfl) (hargs : az.map a.eval = args:=by ((try simp only [la,lb,lc]);first | done | rfl | (simp only [ld,le];rfl))) : wpList P ops Q (oi :: rest) a w :=
  kR N hd hg hf hname hb args hop hargs h
theorem bx (N : Tmp) (cs : Array Value) (t : TypeId) (h : ∀ g,g = w.heap.size → ∀ w1,w1.heap[g]? = some (.cells cs t (0,0)) → Below w.heap.size w w1 → wpList P ops Q rest (a.put oi.dst (.pointer (some ⟨g,0,none⟩))) w1)
    (hd : oi.dst = some N:=by rfl) (hg : oi.guard = none:=by rfl)
    (hr : (execOp a.eval oi).run P w = .ok (.value (.pointer (some ⟨w.heap.size,0,none⟩))) (w.alloc (.cells cs t (0,0))):=by first | (go_simp;done) | (go_simp;rfl)) : wpList P ops Q (oi :: rest) a w :=
  Cq hg hd hr h
theorem gS {N : Option Tmp} {K : Act → World → Prop} (hf : P.funcs[f]? = some fn) (args : Array Value) (h : Calls P f args w fun e w'=>∃ v,e = .returned v∧K (a.put N v) w')
    (hname : (fn.name == "runtime.NumGoroutine") = false := by kernel_rfl) (hb : fn.body.isSome = true := by rfl) (hw : Region.wanted oi (yielded ops a.tmps) = true := by rfl) (hN : oi.dst = N := by rfl)
    (hop : oi.op = .call { callee:=.value (.func f),args:=az,argTypes:=ts }:=by rfl) (hargs : az.map a.eval = args:=by ((try simp only [la,lb,lc]);first | done | rfl | (simp only [ld,le];rfl))) : if Region.wanted oi (yielded ops a.tmps) = true then Oper.wp P oi a w K Q else K (a.put N undef) w :=
  qO hf hname hb args hw hN hop hargs h
end
/-- One step back: a new block, or drawn numbers. -/
class Up1 (w : outParam World) (w1 : World) : Prop where
  up : Below w.heap.size w w1
instance Up1.alloc (w : World) (o : Obj) : Up1 w (w.alloc o):=⟨dF (Below.refl _ _) o⟩
instance Up1.drew (w : World) : Up1 w w.drew:=⟨bG (Below.refl _ _)⟩
instance Up1.drewN (w : World) (n : Nat) : Up1 w (w.drewN n):=⟨bQ (Below.refl _ _) n⟩
theorem up1 {w w1 : World} {g : Nat} {o : Obj} [u : Up1 w w1] (h : w.heap[g]? = some o) : w1.heap[g]? = some o:=iF h u.up
/- Short forms of rows that a great law's printed walk tells again and again; no condition. -/
section
variable {α β γ : Type} {d : Kd α} {d0 : Kd β} {d1 : Kd γ} {e e0 e1 base b0 : Nat} {ok ok0 ok1 : Nat → Prop} {W w w1 : World} {u v v0 v1 : Value} {xs : List α} {xs0 : List β} {xs1 : List γ}
theorem td2 (hu : d.R e W base ok u xs) (hb : Below W.heap.size W w1) (h0 : d0.R e0 w1 W.heap.size ok0 v0 xs0) (h1 : d1.R e1 w1 W.heap.size ok1 v1 xs1) : ay (d.R e w1 base (fun k=>(ok k∧some k ≠ v0.ownBlock)∧some k ≠ v1.ownBlock) u xs) :=
  zA (Kd.aI (Kd.jB (Kd.jB (Kd.Ho hu hb) (Kd.aV h0)) (Kd.aV h1)) (fun _ h=>h.1))
theorem nw (h : d.R e w1 W.heap.size ok v xs) (h' : d0.R e0 W b0 ok0 u xs0) : d.R e w1 W.heap.size (fun k=>ok k∧some k ≠ u.ownBlock) v xs:=Kd.DZ h (Kd.eG h')
end
set_option maxHeartbeats 8000000
set_option maxRecDepth 100000
/-! ### iJ: function 82 -/
def iJ.f (aa : List (List Int)) : Option (Bool):=some (decide ((aa.length : Int) ≤ 24))
theorem iJ.calls (ha : Nat) (da : Option Addr) (ea : Nat) (aa : List (List Int)) (r : Bool) (w : World) (hb0 : w.heap[ha]? = some (.cells #[.slice da aa.length ea] 32 (0,0))) (ba : Kd.C (Kd.slice 2 (Kd.int .i64)) w da aa.length aa) (ca : aa.length ≤ ea) (H : iJ.f aa = some r) :
  Calls Try.prog 82 #[.pointer (some ⟨ha,0,none⟩)] w fun e w'=>e = .returned (.bool r)∧aX w w':=by
 have ia:=zA ba;have ja:=zA ca;clear ba ca;have ka:=zA hb0;clear hb0;unfold iJ.f at H;obtain rfl:=Option.some.inj H;have fa:=bc ka 0;have ga:=bf ka 0;go_enter Try.func82,Try.ntmps82;go_wp2;go_ret;exact ⟨by first | rfl | (simp;done) | (simp [*];done),by repeat (first | exact aX.refl _ | apply aX.step)⟩
/-! ### iG: function 79 -/
def iG.f  : Option (Bool):=some true
theorem iG.calls  (r : Bool) (w : World) (H : iG.f  = some r) :
  Calls Try.prog 79 #[] w fun e w'=>e = .returned (.bool r)∧aX w w':=by
 unfold iG.f at H;obtain rfl:=Option.some.inj H;go_enter Try.func79,Try.ntmps79;go_wp2;go_ret;exact ⟨by first | rfl | (simp;done) | (simp [*];done),by repeat (first | exact aX.refl _ | apply aX.step)⟩
/-! ### dD: function 92 -/
def dD.f (l0 : List Int) : Option (Int):=some (l0.length : Int)
theorem dD.calls (A0 : Option Addr) (c0 : Nat) (l0 : List Int) (r : Int) (w : World) (aa : Kd.C (Kd.int .i64) w A0 l0.length l0) (ba : l0.length ≤ c0) (H : dD.f l0 = some r) :
  Calls Try.prog 92 #[.slice A0 l0.length c0] w fun e w'=>e = .returned (.int .i64 r)∧aX w w':=by
 have ca:=zA aa;have da:=zA ba;clear aa ba;unfold dD.f at H;obtain rfl:=Option.some.inj H;go_enter Try.func92,Try.ntmps92;go_wp2;go_ret;exact ⟨by first | rfl | (simp;done) | (simp [*];done),by repeat (first | exact aX.refl _ | apply aX.step)⟩
/-! ### kv: function 6 -/
def kv.f (l0 : List Int) : Option (Bool):=some (decide ((l0.length : Int) > 4096))
theorem kv.calls (A0 : Option Addr) (c0 : Nat) (l0 : List Int) (r : Bool) (w : World) (aa : Kd.C (Kd.int .u8) w A0 l0.length l0) (ba : l0.length ≤ c0) (H : kv.f l0 = some r) :
  Calls Try.prog 6 #[.slice A0 l0.length c0] w fun e w'=>e = .returned (.bool r)∧aX w w':=by
 have ca:=zA aa;have da:=zA ba;clear aa ba;unfold kv.f at H;obtain rfl:=Option.some.inj H;go_enter Try.func6,Try.ntmps6;go_wp2;go_ret;exact ⟨by first | rfl | (simp;done) | (simp [*];done),by repeat (first | exact aX.refl _ | apply aX.step)⟩
/- Steps that stand in for tactics told again and again: the proofs are found where the lemma is called. -/
theorem eX {α : Type} {a b : α} (h : a = b:=by first | rfl | (simp [errW_none,errW_some] <;> rfl) | (simp [*,errW_none,errW_some] <;> rfl)) : a = b:=h
theorem eS {α : Type} {a b : α} (h : a = b:=by first | rfl | (simp;done) | (simp [*];done)) : a = b:=h
section
variable {α : Type} {d : Kd α} {e base : Nat} {ok : Nat → Prop} {w W : World} {v : Value} {xs : List α}
theorem uV {w0 : World} (h : Kd.V d e w0 base ok v xs) [u : Up w0 w] : Kd.V d e w base ok v xs:=Kd.dx h u.up
theorem uN {w0 : World} (h : Kd.N d e w0 base ok v xs) [u : Up w0 w] : Kd.N d e w base ok v xs:=Kd.bZ h u.up
end
/- Steps that take a told equation apart: a condition that must hold, one of two ways, an answer bound; no condition. -/
section
variable {α β : Type} {P : Prop} [Decidable P] {x y : Option α} {r : α}
theorem gI (h : (if P then x else y) = some r) : (¬ P∧y = some r) ∨ (P∧x = some r):=by
  by_cases c : P
  · exact .inr ⟨c,by rwa [if_pos c] at h⟩
  · exact .inl ⟨c,by rwa [if_neg c] at h⟩
theorem gN (h : (if P then x else none) = some r) : P∧x = some r:=by
  rcases gI h with ⟨_,h⟩ | h
  · cases h
  · exact h
theorem gD (h : (if P then x else none) = some r) : decide P = true∧x = some r:=⟨decide_eq_true (gN h).1,(gN h).2⟩
theorem gZ (h : (if P then x else none) = some r) : ay P∧x = some r:=⟨⟨(gN h).1⟩,(gN h).2⟩
theorem gF (h : (if P then x else y) = some r) : (decide P = false∧y = some r) ∨ (decide P = true∧x = some r) :=
  (gI h).imp (fun h=>⟨decide_eq_false h.1,h.2⟩) (fun h=>⟨decide_eq_true h.1,h.2⟩)
theorem gE {γ : Type} [BEq γ] [LawfulBEq γ] {a b : γ} [Decidable (a = b)] (h : (if a = b then x else y) = some r) : (¬ a = b∧(a == b) = false∧(a != b) = true∧y = some r) ∨ (a = b∧(a == b) = true∧(a != b) = false∧x = some r) :=
  (gI h).imp (fun h=>⟨h.1,beq_eq_false_iff_ne.mpr h.1,bne_iff_ne.mpr h.1,h.2⟩) (fun h=>⟨h.1,beq_iff_eq.mpr h.1,bne_eq_false_iff_eq.mpr h.1,h.2⟩)
theorem gB {t : Bool} (h : (if t = true then x else y) = some r) : (t = true∧x = some r) ∨ (t = false∧y = some r):=by
  cases t
  · exact .inr ⟨rfl,h⟩
  · exact .inl ⟨rfl,h⟩
theorem oD (h : decide P = true:=by first | (with_reducible assumption) | assumption) : P:=of_decide_eq_true h
end
section
variable {α β : Type} {r : α}
theorem bO {x : Option β} {f : β → Option α} (h : x.bind f = some r) : ∃ a,ay (x = some a)∧f a = some r:=by
  obtain ⟨a,h1,h2⟩:=Option.bind_eq_some_iff.mp h
  exact ⟨a,⟨h1⟩,h2⟩
theorem bS {e : β} {f : β → Option α} (h : (some e).bind f = some r) : ∃ y,ay (y = e)∧f y = some r:=⟨e,⟨rfl⟩,h⟩
theorem eY (e : β) : ∃ y,ay (y = e):=⟨e,⟨rfl⟩⟩
end
/-! ### gG: function 156 -/
def gG.f (a0 : Int) (aa : (Int → Option Bool)) : Option (Bool):=(aa a0).bind fun ba=>(some (!ba))
theorem gG.calls (a0 : Int) (ea : Nat) (D5 : Value) (aa : (Int → Option Bool)) (r : Bool) (w : World) (hb1 : w.heap[ea]? = some (.cells #[D5] 95 (0,0))) (sS : FnI Try.prog w D5 aa) (H : gG.f a0 aa = some r) :
  Calls Try.prog 156 #[.int .i64 a0,.pointer (some ⟨ea,0,none⟩)] w fun e w'=>e = .returned (.bool r)∧Below w.heap.size w w':=by
 obtain ⟨zN,D6,D7,rfl,wm,sS⟩:=sS;have wm : ∀ (args_ : Array Value) (w_ : World),(callFunc zN args_).run Try.prog w_ = .ok (.enter zN args_) w_:=wm;have D8:=zA sS;clear sS;have ba:=zA hb1;clear hb1;have HB:=zA (Below.refl w.heap.size w);unfold gG.f at H;replace H:=bO H;obtain ⟨fa,A3,H⟩:=H;obtain rfl:=Option.some.inj H;have ca:=bc ba 0;have da:=bf ba 0;go_enter Try.func156,Try.ntmps156;go_wp2_with (first | (go_at_fn zN;refine dw (args':=D6 ++ #[.int .i64 a0] ++ D7) (by simp) ?_;refine (D8.out a0 _ A3.out _ (uH HB.out)).mono ?_;rintro e w5 ⟨rfl,hb⟩;replace ba:=xB ba hb;replace HB:=xH HB hb;(try clear hb)));go_ret;exact ⟨eX,uH HB.out⟩
/-! ### gV: function 161 -/
def gV.f (l0 : List Int) (aa : (List Int → Option Bool)) : Option (Bool):=(aa l0).bind fun ba=>(some (!ba))
theorem gV.calls (A0 : Option Addr) (c0 : Nat) (l0 : List Int) (ea : Nat) (D5 : Value) (aa : (List Int → Option Bool)) (r : Bool) (w : World) (fa : Kd.C (Kd.int .i64) w A0 l0.length l0) (ga : l0.length ≤ c0) (hb1 : w.heap[ea]? = some (.cells #[D5] 106 (0,0))) (sS : FnL Try.prog w D5 aa) (H : gV.f l0 aa = some r) :
  Calls Try.prog 161 #[.slice A0 l0.length c0,.pointer (some ⟨ea,0,none⟩)] w fun e w'=>e = .returned (.bool r)∧Below w.heap.size w w':=by
 have ha:=zA fa;have ia:=zA ga;clear fa ga;obtain ⟨zN,D6,D7,rfl,wm,sS⟩:=sS;have wm : ∀ (args_ : Array Value) (w_ : World),(callFunc zN args_).run Try.prog w_ = .ok (.enter zN args_) w_:=wm;have D8:=zA sS;clear sS;have ba:=zA hb1;clear hb1;have HB:=zA (Below.refl w.heap.size w);unfold gV.f at H;replace H:=bO H;obtain ⟨ja,A3,H⟩:=H;obtain rfl:=Option.some.inj H;have ca:=bc ba 0;have da:=bf ba 0;go_enter Try.func161,Try.ntmps161;go_wp2_with (first | (go_at_fn zN;refine dw (args':=D6 ++ #[.slice A0 l0.length c0] ++ D7) (by simp) ?_;refine (D8.out l0 _ _ _ A3.out _ (uH HB.out) (by exact uC ha.out) (by exact ia.out)).mono ?_;rintro e w5 ⟨rfl,hb⟩;replace ba:=xB ba hb;replace HB:=xH HB hb;(try clear hb)));go_ret;exact ⟨eX,uH HB.out⟩
/-! ### fZ: function 85 -/
def fZ.f (l0 : List Int) : Option (Int):=(dD.f l0).bind fun aa=>(some (wrap64 (aa - 1)))
theorem fZ.calls (A0 : Option Addr) (c0 : Nat) (l0 : List Int) (r : Int) (w : World) (da : Kd.C (Kd.int .i64) w A0 l0.length l0) (ea : l0.length ≤ c0) (H : fZ.f l0 = some r) :
  Calls Try.prog 85 #[.slice A0 l0.length c0] w fun e w'=>e = .returned (.int .i64 r)∧aX w w':=by
 have fa:=zA da;have ga:=zA ea;clear da ea;unfold fZ.f at H;replace H:=bO H;obtain ⟨ca,A2,H⟩:=H;obtain rfl:=Option.some.inj H;go_enter Try.func85,Try.ntmps85;go_wp2_with (first | ((with_reducible refine av (f:=92) rfl ?_);refine gL (some 4) Try.func92 #[.slice A0 l0.length c0] ?_;(with_reducible refine (dD.calls _ _ l0 ca _ ?aa ?ba A2.out).mono ?_);(case aa=>exact uC fa.out);(case ba=>exact ga.out);rintro e w' ⟨rfl,⟨nd,rfl⟩⟩;refine ⟨_,rfl,?_⟩));go_ret;exact ⟨by first | rfl | (simp;done) | (simp [*];done),by repeat (first | exact aX.refl _ | apply aX.step)⟩
/-! ### fu: function 121 -/
def fu.f (a0 : Int) (a1 : Int) : Option (Bool):=if a1 ≥ 0 then (some (decide (a1 < a0))) else (some false)
theorem fu.calls (a0 : Int) (a1 : Int) (r : Bool) (w : World) (H : fu.f a0 a1 = some r) :
  Calls Try.prog 121 #[.int .i64 a0,.int .i64 a1] w fun e w'=>e = .returned (.bool r)∧aX w w':=by
 unfold fu.f at H;replace H:=gI H;obtain ⟨c3,H⟩|⟨c3,H⟩:=H
 ·have aa : decide (0 ≤ a1) = false:=decide_eq_false c3;clear c3;obtain rfl:=Option.some.inj H;go_enter Try.func121,Try.ntmps121;go_wp2;go_ret;exact ⟨by first | rfl | (simp;done) | (simp [*];done),by repeat (first | exact aX.refl _ | apply aX.step)⟩
 have aa : decide (0 ≤ a1) = true:=decide_eq_true c3;clear c3;obtain rfl:=Option.some.inj H;go_enter Try.func121,Try.ntmps121;go_wp2;go_ret;exact ⟨by first | rfl | (simp;done) | (simp [*];done),by repeat (first | exact aX.refl _ | apply aX.step)⟩
/-! ### dB: function 94 -/
def dB.f (a0 : Int) (a1 : Int) : Option (Int):=if a0 = 0 then (none) else (some (Int.tmod (wrap64 ((Int.tmod a1 a0) + a0)) a0))
theorem dB.calls (a0 : Int) (a1 : Int) (r : Int) (w : World) (H : dB.f a0 a1 = some r) :
  Calls Try.prog 94 #[.int .i64 a0,.int .i64 a1] w fun e w'=>e = .returned (.int .i64 r)∧aX w w':=by
 unfold dB.f at H;replace H:=gI H;obtain ⟨c3,H⟩|⟨c3,H⟩:=H
 ·have aa : (a0 == 0) = false:=beq_eq_false_iff_ne.mpr c3;have ba : (a0 != 0) = true:=bne_iff_ne.mpr c3;obtain rfl:=Option.some.inj H;go_enter Try.func94,Try.ntmps94;go_wp2;go_ret;exact ⟨by first | rfl | (simp;done) | (simp [*];done),by repeat (first | exact aX.refl _ | apply aX.step)⟩
 exact absurd H (by simp)
/-! ### fw: function 122 -/
def fw.f (a0 : Int) (a1 : Int) (a2 : Int) : Option (Int):=(dB.f a0 (wrap64 (a1 * a2))).bind fun aa=>(some aa)
theorem fw.calls (a0 : Int) (a1 : Int) (a2 : Int) (r : Int) (w : World) (H : fw.f a0 a1 a2 = some r) :
  Calls Try.prog 122 #[.int .i64 a0,.int .i64 a1,.int .i64 a2] w fun e w'=>e = .returned (.int .i64 r)∧aX w w':=by
 unfold fw.f at H;replace H:=bO H;obtain ⟨aa,A4,H⟩:=H;obtain rfl:=Option.some.inj H;go_enter Try.func122,Try.ntmps122;go_wp2_with (first | ((with_reducible refine av (f:=94) rfl ?_);refine gL (some 11) Try.func94 #[.int .i64 a0,.int .i64 (wrap64 (a1 * a2))] ?_;(with_reducible refine (dB.calls a0 (wrap64 (a1 * a2)) aa _ A4.out).mono ?_);rintro e w' ⟨rfl,⟨nd,rfl⟩⟩;refine ⟨_,rfl,?_⟩));go_ret;exact ⟨by first | rfl | (simp;done) | (simp [*];done),by repeat (first | exact aX.refl _ | apply aX.step)⟩
/-! ### fJ: function 74 -/
def fJ.f (a0 : Int) (a1 : Int) (a2 : Int) : Option (Bool):=if a1 ≤ a0 then (some (decide (a0 ≤ a2))) else (some false)
theorem fJ.calls (a0 : Int) (a1 : Int) (a2 : Int) (r : Bool) (w : World) (H : fJ.f a0 a1 a2 = some r) :
  Calls Try.prog 74 #[.int .i64 a0,.int .i64 a1,.int .i64 a2] w fun e w'=>e = .returned (.bool r)∧aX w w':=by
 unfold fJ.f at H;replace H:=gF H;obtain ⟨aa,H⟩|⟨aa,H⟩:=H
 ·obtain rfl:=Option.some.inj H;go_enter Try.func74,Try.ntmps74;go_wp2;go_ret;exact ⟨by first | rfl | (simp;done) | (simp [*];done),by repeat (first | exact aX.refl _ | apply aX.step)⟩
 obtain rfl:=Option.some.inj H;go_enter Try.func74,Try.ntmps74;go_wp2;go_ret;exact ⟨by first | rfl | (simp;done) | (simp [*];done),by repeat (first | exact aX.refl _ | apply aX.step)⟩
/-! ### iK: function 73 -/
def iK.f (aa : Int) : Option (Bool):=(fJ.f aa 0 24).bind fun ba=>(some ba)
theorem iK.calls (ea : Nat) (aa : Int) (r : Bool) (w : World) (hb0 : w.heap[ea]? = some (.cells #[.int .i64 aa] 2 (0,0))) (H : iK.f aa = some r) :
  Calls Try.prog 73 #[.pointer (some ⟨ea,0,none⟩)] w fun e w'=>e = .returned (.bool r)∧aX w w':=by
 have fa:=zA hb0;clear hb0;unfold iK.f at H;replace H:=bO H;obtain ⟨ba,A2,H⟩:=H;obtain rfl:=Option.some.inj H;have ca:=bc fa 0;have da:=bf fa 0;go_enter Try.func73,Try.ntmps73;go_wp2_with (first | ((with_reducible refine av (f:=74) rfl ?_);refine gL (some 3) Try.func74 #[.int .i64 aa,.int .i64 0,.int .i64 24] ?_;(with_reducible refine (fJ.calls aa 0 24 ba _ A2.out).mono ?_);rintro e w' ⟨rfl,⟨nd,rfl⟩⟩;refine ⟨_,rfl,?_⟩));go_ret;exact ⟨by first | rfl | (simp;done) | (simp [*];done),by repeat (first | exact aX.refl _ | apply aX.step)⟩
/-! ### jo: function 21 -/
def jo.l0 : Nat → List Int → Int → Int → Option (Int)
 | 0,_,_,_=>none
 | k + 1,x0,x3,x4=>if x4 < (x0.length : Int) then (if 0 ≤ x4 then (jo.l0 k x0 (wrap64 (x3 + (rd x0 x4))) (wrap64 (x4 + 1))) else (none)) else (some x3)
def jo.f (k : Nat) (l0 : List Int) : Option (Int):=jo.l0 k l0 0 0
theorem jo.calls (k : Nat) (A0 : Option Addr) (c0 : Nat) (l0 : List Int) (r : Int) (w : World) (ha : Kd.C (Kd.int .i64) w A0 l0.length l0) (ia : l0.length ≤ c0) (H : jo.f k l0 = some r) :
  Calls Try.prog 21 #[.slice A0 l0.length c0] w fun e w'=>e = .returned (.int .i64 r)∧aX w w':=by
 have ma:=zA ha;have oa:=zA ia;clear ha ia;unfold jo.f at H;have H':=zA H;clear H;go_enter Try.func21,Try.ntmps21;go_wp2;go_loopg [3,4] k (fun kq v3 v4 w'=>∃ (ba : Int) (aa : Int),v3 = .int .i64 ba∧v4 = .int .i64 aa∧ay (jo.l0 kq l0 ba aa = some r)∧ay (kq ≤ k)∧aX w w');(case atStart=>exact ⟨(0),(0),eS,eS,H',⟨Nat.le_refl _⟩,by repeat (first | exact aX.refl _ | apply aX.step)⟩)
 case round =>
  clear H';obtain ⟨ba,aa,rfl,rfl,HA,ja,⟨m1,rfl⟩⟩:=hrel
  cases gk with
  | zero=>exact absurd HA.out (by simp [jo.l0])
  | succ k1 =>
   have H:=HA.out;clear HA;simp only [jo.l0] at H;replace H:=gF H;obtain ⟨fa,H⟩|⟨fa,H⟩:=H
   ·obtain rfl:=Option.some.inj H;go_wp2;go_ret;exact ⟨by first | rfl | (simp;done) | (simp [*];done),by repeat (first | exact aX.refl _ | apply aX.step)⟩
   replace H:=gD H;obtain ⟨na,H⟩:=H;have H':=zA H;clear H;have ca : 0 ≤ (aa : Int):=oD;have da : aa < (l0.length : Int):=oD;obtain ⟨ka,ga,ea⟩:=Kd.dn ma.out aa ca da;cases ga;replace ca:=eq_true ca;replace da:=eq_true da;go_wp2;go_roundg k1;(case measure=>have:=ja.out;omega);(case rel=>exact ⟨(wrap64 (ba + (rd l0 aa))),(wrap64 (aa + 1)),eS,eS,H',⟨by have:=ja.out;omega⟩,by repeat (first | exact aX.refl _ | apply aX.step)⟩)
/-! ### eu: function 77 -/
def eu.f (a0 : Int) (a1 : Int) (a2 : Int) : Option (Bool):=if a0 ≥ a1 then (some (decide (a0 ≤ a2))) else (some false)
theorem eu.calls (a0 : Int) (a1 : Int) (a2 : Int) (r : Bool) (w : World) (H : eu.f a0 a1 a2 = some r) :
  Calls Try.prog 77 #[.int .i64 a0,.int .i64 a1,.int .i64 a2] w fun e w'=>e = .returned (.bool r)∧aX w w':=by
 unfold eu.f at H;replace H:=gI H;obtain ⟨c4,H⟩|⟨c4,H⟩:=H
 ·have aa : decide (a1 ≤ a0) = false:=decide_eq_false c4;clear c4;obtain rfl:=Option.some.inj H;go_enter Try.func77,Try.ntmps77;go_wp2;go_ret;exact ⟨by first | rfl | (simp;done) | (simp [*];done),by repeat (first | exact aX.refl _ | apply aX.step)⟩
 have aa : decide (a1 ≤ a0) = true:=decide_eq_true c4;clear c4;obtain rfl:=Option.some.inj H;go_enter Try.func77,Try.ntmps77;go_wp2;go_ret;exact ⟨by first | rfl | (simp;done) | (simp [*];done),by repeat (first | exact aX.refl _ | apply aX.step)⟩
/-! ### iI: function 119 -/
def iI.f (a0 : Int) (a1 : Int) : Option (Int):=if a0 = 0 then (none) else (some (Int.tmod (wrap64 ((Int.tmod a1 a0) + a0)) a0))
theorem iI.calls (a0 : Int) (a1 : Int) (r : Int) (w : World) (H : iI.f a0 a1 = some r) :
  Calls Try.prog 119 #[.int .i64 a0,.int .i64 a1] w fun e w'=>e = .returned (.int .i64 r)∧aX w w':=by
 unfold iI.f at H;replace H:=gI H;obtain ⟨c3,H⟩|⟨c3,H⟩:=H
 ·have aa : (a0 == 0) = false:=beq_eq_false_iff_ne.mpr c3;have ba : (a0 != 0) = true:=bne_iff_ne.mpr c3;obtain rfl:=Option.some.inj H;go_enter Try.func119,Try.ntmps119;go_wp2;go_ret;exact ⟨by first | rfl | (simp;done) | (simp [*];done),by repeat (first | exact aX.refl _ | apply aX.step)⟩
 exact absurd H (by simp)
/- Short forms of arms that a walk tells again and again: a box, an empty list, blocks that differ, blocks that stay; no condition. -/
section
variable {P : Program} {ops : Array Oper} {Q : Exit → Act → World → Prop} {rest : List Oper} {oi : Oper} {a : Act} {w : World}
theorem bX (N : Tmp) (hd : oi.dst = some N) (cs : Array Value) (t : TypeId) (h : ∀ g w1,g = w.heap.size → ay (w1.heap[g]? = some (.cells cs t (0,0))) → Below w.heap.size w w1 → wpList P ops Q rest (a.put oi.dst (.pointer (some ⟨g,0,none⟩))) w1)
    (hg : oi.guard = none:=by rfl)
    (hr : (execOp a.eval oi).run P w = .ok (.value (.pointer (some ⟨w.heap.size,0,none⟩))) (w.alloc (.cells cs t (0,0))):=by first | (go_simp;done) | (go_simp;rfl)) : wpList P ops Q (oi :: rest) a w :=
  bx N cs t (fun g e w1 hb hB=>h g w1 e ⟨hb⟩ hB) hd hg hr
theorem lN (e : TypeId) (N : Tmp) (hd : oi.dst = some N) {y : List Int} (hy : ay (y = [])) (h : ∀ v w1,(Kd.int .i64).R e w1 w.heap.size (fun _=>True) v y → Below w.heap.size w w1 → wpList P ops Q rest (a.put oi.dst v) w1)
    (hg : oi.guard = none:=by rfl)
    (hr : (execOp a.eval oi).run P w = .ok (.value (.slice (some ⟨w.heap.size,0,none⟩) ([] : List Int).length ([] : List Int).length)) (w.alloc (.cells ([] : List Value).toArray e)):=by first | (go_simp;done) | (go_simp;rfl)) : wpList P ops Q (oi :: rest) a w :=
  Kd.wQ (Kd.int .i64) _ e hg hd (xs:=([] : List Int)) (inner:=[]) (ok:=fun _=>True) (okp:=fun _=>True) hr (fG.none _ _) (fun _ hk=>hk) trivial (Below.refl _ _) (Nat.le_refl _) (by simp) (fun v w1 ho hb _ _=>h v w1 (by rw [hy.out];exact ho) hb)
end
section
variable {w0 w W w1 : World} {g g' : Nat} {o : Obj}
theorem nL (h : ay (w0.heap[g]? = some o)) (hg : g' = w.heap.size) [Up w0 w] : ay (g ≠ g'):=⟨by rw [hg];exact neL h⟩
theorem nG (h : ay (w0.heap[g]? = some o)) (hg : g' = w.heap.size) [Up w0 w] : ay (g' ≠ g):=⟨by rw [hg];exact neG h⟩
end
/- Short forms, once more: what is kept beside a set of blocks, structs of three numbers' rows set at once, rows beside a source; no condition. -/
/-- A block that may be changed. -/
class SIn (b : Nat) (S : Nat → Prop) (k : Nat) : Prop where
  is : S k ∨ b ≤ k
instance SIn.one (b g : Nat) (P : Nat → Prop) : SIn b (fun k=>P k ∨ k = g) g:=⟨.inl (.inr rfl)⟩
instance SIn.far (b k : Nat) (S : Nat → Prop) [q : Geq b k] : SIn b S k:=⟨.inr q.geq⟩
class UpL (b : Nat) (S : Nat → Prop) (w0 w : World) : Prop where
  up : ∀ {w1 : World},b = w1.heap.size → Kept w1 w0 S → Kept w1 w S
instance UpL.refl (b : Nat) (S : Nat → Prop) (w : World) : UpL b S w w:=⟨fun _ h=>h⟩
instance UpL.alloc (b : Nat) (S : Nat → Prop) (w0 w : World) (o : Obj) [u : UpL b S w0 w] : UpL b S w0 (w.alloc o):=⟨fun e h=>Kept.alloc (u.up e h) o⟩
instance UpL.drew (b : Nat) (S : Nat → Prop) (w0 w : World) [u : UpL b S w0 w] : UpL b S w0 w.drew:=⟨fun e h=>Kept.drew (u.up e h)⟩
instance UpL.drewN (b : Nat) (S : Nat → Prop) (w0 w : World) (n : Nat) [u : UpL b S w0 w] : UpL b S w0 (w.drewN n):=⟨fun e h=>Kept.drewN (u.up e h) n⟩
instance UpL.setCell (b : Nat) (S : Nat → Prop) (w0 w : World) (k j : Nat) (v : Value) [u : UpL b S w0 w] [q : SIn b S k] : UpL b S w0 (w.setCell ⟨k,j,none⟩ v):=⟨by rintro w1 rfl h;exact Kept.setCell (u.up rfl h) q.is v⟩
section
variable {w w0 w1 w2 w' W : World} {g g' : Nat} {S : Nat → Prop}
theorem uL (h : Kept w W S) [u : UpL w.heap.size S W w'] : Kept w w' S:=u.up rfl h
theorem cH {α : Type} {d : Kd α} {A : Option Addr} {n : Nat} {xs : List α} (h : ay (d.C w A n xs)) (hb : ay (Below w.heap.size w W)) [u : UpS w.heap.size W w'] : d.C w' A n xs:=Kd.gX h.out (uH hb.out)
end
/-! ### eP: function 125 -/
def eP.l0 : Nat → Int → Int → Option (Bool)
 | 0,_,_=>none
 | k + 1,x0,x3=>if (wrap64 (x3 * x3)) ≤ x0 then (if x3 = 0 then (none) else (if (Int.tmod x0 x3) = 0 then (some false) else (eP.l0 k x0 (wrap64 (x3 + 1))))) else (some true)
def eP.f (k : Nat) (a0 : Int) : Option (Bool):=(fJ.f a0 2 10007).bind fun aa=>(if aa = true then (eP.l0 k a0 2) else (some false))
theorem eP.calls (k : Nat) (a0 : Int) (r : Bool) (w : World) (H : eP.f k a0 = some r) :
  Calls Try.prog 125 #[.int .i64 a0] w fun e w'=>e = .returned (.bool r)∧aX w w':=by
 unfold eP.f at H;replace H:=bO H;obtain ⟨fa,A2,H⟩:=H;replace H:=gB H;obtain ⟨rfl,H⟩|⟨rfl,H⟩:=H
 ·have H':=zA H;clear H;go_enter Try.func125,Try.ntmps125;go_wp2_with (first | ((with_reducible refine av (f:=74) rfl ?_);refine gL (some 5) Try.func74 #[.int .i64 a0,.int .i64 2,.int .i64 10007] ?_;(with_reducible refine (fJ.calls a0 2 10007 true _ A2.out).mono ?_);rintro e w' ⟨rfl,⟨nd,rfl⟩⟩;refine ⟨_,rfl,?_⟩));go_loopg [3] k (fun kq v3 w'=>∃ (aa : Int),v3 = .int .i64 aa∧ay (eP.l0 kq a0 aa = some r)∧ay (kq ≤ k)∧aX w w');(case atStart=>exact ⟨(2),eS,H',⟨Nat.le_refl _⟩,by repeat (first | exact aX.refl _ | apply aX.step)⟩)
  case round =>
   clear H';obtain ⟨aa,rfl,HA,ea,⟨m1,rfl⟩⟩:=hrel
   cases gk with
   | zero=>exact absurd HA.out (by simp [eP.l0])
   | succ k1 =>
    have H:=HA.out;clear HA;simp only [eP.l0] at H;replace H:=gF H;obtain ⟨ba,H⟩|⟨ba,H⟩:=H
    ·obtain rfl:=Option.some.inj H;go_wp2;go_ret;exact ⟨by first | rfl | (simp;done) | (simp [*];done),by repeat (first | exact aX.refl _ | apply aX.step)⟩
    replace H:=gI H;obtain ⟨c5,H⟩|⟨c5,H⟩:=H
    ·have ga : (aa == 0) = false:=beq_eq_false_iff_ne.mpr c5;have ha : (aa != 0) = true:=bne_iff_ne.mpr c5;replace H:=gE H;obtain ⟨c6,ca,da,H⟩|⟨c6,ca,da,H⟩:=H
     ·have H':=zA H;clear H;go_wp2;go_roundg k1;(case measure=>have:=ea.out;omega);(case rel=>exact ⟨(wrap64 (aa + 1)),eS,H',⟨by have:=ea.out;omega⟩,by repeat (first | exact aX.refl _ | apply aX.step)⟩)
     clear c6;obtain rfl:=Option.some.inj H;go_wp2;go_ret;exact ⟨by first | rfl | (simp;done) | (simp [*];done),by repeat (first | exact aX.refl _ | apply aX.step)⟩
    exact absurd H (by simp)
 ·obtain rfl:=Option.some.inj H;go_enter Try.func125,Try.ntmps125;go_wp2_with (first | ((with_reducible refine av (f:=74) rfl ?_);refine gL (some 5) Try.func74 #[.int .i64 a0,.int .i64 2,.int .i64 10007] ?_;(with_reducible refine (fJ.calls a0 2 10007 false _ A2.out).mono ?_);rintro e w' ⟨rfl,⟨nd,rfl⟩⟩;refine ⟨_,rfl,?_⟩));go_ret;exact ⟨by first | rfl | (simp;done) | (simp [*];done),by repeat (first | exact aX.refl _ | apply aX.step)⟩
/-! ### dW: function 126 -/
def dW.l0 : Nat → Int → Int → Int → Int → Option (Int)
 | 0,_,_,_,_=>none
 | k + 1,x0,x1,x2,x7=>if x2 > 0 then (if (Int.tmod x2 2) = 1 then ((fw.f x0 x7 x1).bind fun aa=>((fw.f x0 x1 x1).bind fun ba=>(dW.l0 k x0 ba (wrap64 (Int.tdiv x2 2)) aa))) else ((fw.f x0 x1 x1).bind fun ca=>(dW.l0 k x0 ca (wrap64 (Int.tdiv x2 2)) x7))) else (some x7)
def dW.f (k : Nat) (a0 : Int) (a1 : Int) (a2 : Int) : Option (Int):=(dB.f a0 1).bind fun aa=>(dW.l0 k a0 a1 a2 aa)
theorem dW.calls (k : Nat) (a0 : Int) (a1 : Int) (a2 : Int) (r : Int) (w : World) (H : dW.f k a0 a1 a2 = some r) :
  Calls Try.prog 126 #[.int .i64 a0,.int .i64 a1,.int .i64 a2] w fun e w'=>e = .returned (.int .i64 r)∧aX w w':=by
 unfold dW.f at H;replace H:=bO H;obtain ⟨da,A4,H⟩:=H;have H':=zA H;clear H;go_enter Try.func126,Try.ntmps126;go_wp2_with (first | ((with_reducible refine av (f:=94) rfl ?_);refine gL (some 9) Try.func94 #[.int .i64 a0,.int .i64 1] ?_;(with_reducible refine (dB.calls a0 1 da _ A4.out).mono ?_);rintro e w' ⟨rfl,⟨nd,rfl⟩⟩;refine ⟨_,rfl,?_⟩));go_loopg [1,2,7] k (fun kq v1 v2 v7 w'=>∃ (aa : Int) (ba : Int) (ca : Int),v1 = .int .i64 aa∧v2 = .int .i64 ba∧v7 = .int .i64 ca∧ay (dW.l0 kq a0 aa ba ca = some r)∧ay (kq ≤ k)∧aX w w');(case atStart=>exact ⟨(a1),(a2),(da),eS,eS,eS,H',⟨Nat.le_refl _⟩,by repeat (first | exact aX.refl _ | apply aX.step)⟩)
 case round =>
  clear H';obtain ⟨aa,ba,ca,rfl,rfl,rfl,HA,ha,⟨m1,rfl⟩⟩:=hrel
  cases gk with
  | zero=>exact absurd HA.out (by simp [dW.l0])
  | succ k1 =>
   have H:=HA.out;clear HA;simp only [dW.l0] at H;replace H:=gI H;obtain ⟨c5,H⟩|⟨c5,H⟩:=H
   ·have ia : decide (0 < ba) = false:=decide_eq_false c5;clear c5;obtain rfl:=Option.some.inj H;go_wp2;go_ret;exact ⟨by first | rfl | (simp;done) | (simp [*];done),by repeat (first | exact aX.refl _ | apply aX.step)⟩
   have ia : decide (0 < ba) = true:=decide_eq_true c5;clear c5;replace H:=gE H;obtain ⟨c6,ja,ka,H⟩|⟨c6,ja,ka,H⟩:=H
   ·replace H:=bO H;obtain ⟨ea,A9,H⟩:=H;have H':=zA H;clear H;go_wp2_with (first | ((with_reducible refine av (f:=122) rfl ?_);refine gL (some 24) Try.func122 #[.int .i64 a0,.int .i64 aa,.int .i64 aa] ?_;(with_reducible refine (fw.calls a0 aa aa ea _ A9.out).mono ?_);rintro e w' ⟨rfl,⟨nd,rfl⟩⟩;refine ⟨_,rfl,?_⟩));go_roundg k1;(case measure=>have:=ha.out;omega);(case rel=>exact ⟨(ea),(wrap64 (Int.tdiv ba 2)),(ca),eS,eS,eS,H',⟨by have:=ha.out;omega⟩,by repeat (first | exact aX.refl _ | apply aX.step)⟩)
   clear c6;replace H:=bO H;obtain ⟨fa,A7,H⟩:=H;replace H:=bO H;obtain ⟨ga,A8,H⟩:=H;have H':=zA H;clear H;go_wp2_with (first | ((with_reducible refine av (f:=122) rfl ?_);refine gL (some 20) Try.func122 #[.int .i64 a0,.int .i64 ca,.int .i64 aa] ?_;(with_reducible refine (fw.calls a0 ca aa fa _ A7.out).mono ?_);rintro e w' ⟨rfl,⟨nd,rfl⟩⟩;refine ⟨_,rfl,?_⟩) | ((with_reducible refine av (f:=122) rfl ?_);refine gL (some 24) Try.func122 #[.int .i64 a0,.int .i64 aa,.int .i64 aa] ?_;(with_reducible refine (fw.calls a0 aa aa ga _ A8.out).mono ?_);rintro e w' ⟨rfl,⟨nd,rfl⟩⟩;refine ⟨_,rfl,?_⟩));go_roundg k1;(case measure=>have:=ha.out;omega);(case rel=>exact ⟨(ga),(wrap64 (Int.tdiv ba 2)),(fa),eS,eS,eS,H',⟨by have:=ha.out;omega⟩,by repeat (first | exact aX.refl _ | apply aX.step)⟩)
/-! ### fP: function 141 -/
def fP.f (k : Nat) (a0 : Int) (a1 : Int) : Option (Int):=(dW.f k a0 a1 (wrap64 (a0 - 2))).bind fun aa=>(some aa)
theorem fP.calls (k : Nat) (a0 : Int) (a1 : Int) (r : Int) (w : World) (H : fP.f k a0 a1 = some r) :
  Calls Try.prog 141 #[.int .i64 a0,.int .i64 a1] w fun e w'=>e = .returned (.int .i64 r)∧aX w w':=by
 unfold fP.f at H;replace H:=bO H;obtain ⟨aa,A3,H⟩:=H;obtain rfl:=Option.some.inj H;go_enter Try.func141,Try.ntmps141;go_wp2_with (first | ((with_reducible refine av (f:=126) rfl ?_);refine gL (some 9) Try.func126 #[.int .i64 a0,.int .i64 a1,.int .i64 (wrap64 (a0 - 2))] ?_;(with_reducible refine (dW.calls k a0 a1 (wrap64 (a0 - 2)) aa _ A3.out).mono ?_);rintro e w' ⟨rfl,⟨nd,rfl⟩⟩;refine ⟨_,rfl,?_⟩));go_ret;exact ⟨by first | rfl | (simp;done) | (simp [*];done),by repeat (first | exact aX.refl _ | apply aX.step)⟩
/-! ### jA: function 144 -/
def jA.f (k : Nat) (a0 : Int) (a1 : Int) (a2 : Int) : Option (Int):=(fP.f k a0 a2).bind fun aa=>((fw.f a0 a1 aa).bind fun ba=>(some ba))
theorem jA.calls (k : Nat) (a0 : Int) (a1 : Int) (a2 : Int) (r : Int) (w : World) (H : jA.f k a0 a1 a2 = some r) :
  Calls Try.prog 144 #[.int .i64 a0,.int .i64 a1,.int .i64 a2] w fun e w'=>e = .returned (.int .i64 r)∧aX w w':=by
 unfold jA.f at H;replace H:=bO H;obtain ⟨aa,A4,H⟩:=H;replace H:=bO H;obtain ⟨ba,A5,H⟩:=H;obtain rfl:=Option.some.inj H;go_enter Try.func144,Try.ntmps144;go_wp2_with (first | ((with_reducible refine av (f:=141) rfl ?_);refine gL (some 11) Try.func141 #[.int .i64 a0,.int .i64 a2] ?_;(with_reducible refine (fP.calls k a0 a2 aa _ A4.out).mono ?_);rintro e w' ⟨rfl,⟨nd,rfl⟩⟩;refine ⟨_,rfl,?_⟩) | ((with_reducible refine av (f:=122) rfl ?_);refine gL (some 12) Try.func122 #[.int .i64 a0,.int .i64 a1,.int .i64 aa] ?_;(with_reducible refine (fw.calls a0 a1 aa ba _ A5.out).mono ?_);rintro e w' ⟨rfl,⟨nd,rfl⟩⟩;refine ⟨_,rfl,?_⟩));go_ret;exact ⟨by first | rfl | (simp;done) | (simp [*];done),by repeat (first | exact aX.refl _ | apply aX.step)⟩
/-! ### eQ: function 145 -/
def eQ.l0 : Nat → List Int → Option (List Int)
 | 0,_=>none
 | k + 1,x0=>if (x0.length : Int) > 0 then (if 0 ≤ (wrap64 ((x0.length : Int) - 1)) then (if (wrap64 ((x0.length : Int) - 1)) < (x0.length : Int) then (if (rd x0 (wrap64 ((x0.length : Int) - 1))) = 0 then (if (wrap64 ((x0.length : Int) - 1)) ≤ (x0.length : Int) then (eQ.l0 k (x0.take ((wrap64 ((x0.length : Int) - 1)) : Int).toNat)) else (none)) else (some x0)) else (none)) else (none)) else (some x0)
def eQ.f (k : Nat) (l0 : List Int) : Option (List Int):=eQ.l0 k l0
theorem eQ.calls (k : Nat) (ka : Nat → Prop) (ca : Value) (l0 : List Int) (r : List Int) (w0 w : World) (hB : Below w0.heap.size w0 w) (za : Kd.R (Kd.int .i64) 2 w w0.heap.size ka ca l0) (H : eQ.f k l0 = some r) :
  Calls Try.prog 145 #[ca] w fun e w'=>∃ ua : Value,e = .returned (ua)∧Kd.R (Kd.int .i64) 2 w' w0.heap.size (fun k_=>(ka k_ ∨ w.heap.size ≤ k_)) ua r∧Below w0.heap.size w0 w'∧Kept w w' (fun k_=>ka k_):=by
 have Aa:=zA (show Kd.R (Kd.int .i64) 2 w w0.heap.size (fun k_=>(ka k_ ∨ w.heap.size ≤ k_)) ca l0 from Kd.aI za (fun k_ hk=>(.inl hk)));have HK:=zA (Kept.refl w (fun k_=>ka k_));have HW0:=zA hB.size;have HB:=zA hB;clear hB;unfold eQ.f at H;have H':=zA H;clear H;go_enter Try.func145,Try.ntmps145;go_wp2;go_loopg [0] k (fun kq v0 w'=>∃ (aa : List Int),ay (eQ.l0 kq aa = some r)∧ay (kq ≤ k)∧ay (Kd.R (Kd.int .i64) 2 w' w0.heap.size (fun k_=>(ka k_ ∨ w.heap.size ≤ k_)) v0 aa)∧ay (Kept w w' (fun k_=>ka k_))∧ay (Below w0.heap.size w0 w'));(case atStart=>exact ⟨(l0),H',⟨Nat.le_refl _⟩,⟨uR Aa.out⟩,⟨by repeat (first | (with_reducible first | exact HK.out | apply Kept.alloc | apply Kept.drewN | apply Kept.drew) | exact HK.out)⟩,⟨uH HB.out⟩⟩)
 case round =>
  clear H';obtain ⟨aa,HA,wa,ba,HK,HB⟩:=hrel
  cases gk with
  | zero=>exact absurd HA.out (by simp [eQ.l0])
  | succ k1 =>
   have H:=HA.out;clear HA;simp only [eQ.l0] at H;replace H:=gI H;obtain ⟨c2,H⟩|⟨c2,H⟩:=H
   ·have qa : decide (0 < (aa.length : Int)) = false:=decide_eq_false c2;have ra : decide (0 < aa.length) = false:=decide_eq_false (by omega);clear c2;obtain rfl:=Option.some.inj H;obtain ⟨Ba,Ca,rfl⟩:=Kd.aN ba.out;go_wp2;go_ret;exact ⟨_,eX,uR ba.out,uH HB.out,by repeat (first | (with_reducible first | exact HK.out | apply Kept.alloc | apply Kept.drewN | apply Kept.drew) | exact HK.out)⟩
   have qa : decide (0 < (aa.length : Int)) = true:=decide_eq_true c2;have ra : decide (0 < aa.length) = true:=decide_eq_true (by omega);clear c2;obtain ⟨fa,ha⟩ : ∃ j_ : Int,(wrap64 ((aa.length : Int) - 1)) = j_:=⟨_,rfl⟩;(first | rw [ha] at H | simp only [ha] at H);have xa : (IntKind.i64.wrap ((aa.length : Int) - 1)) = fa:=(eT _).trans ha;replace H:=gD H;obtain ⟨Da,H⟩:=H;replace H:=gD H;obtain ⟨Ea,H⟩:=H;replace H:=gE H;obtain ⟨c6,sa,ta,H⟩|⟨c6,sa,ta,H⟩:=H
   ·obtain rfl:=Option.some.inj H;obtain ⟨Fa,Ga,rfl⟩:=Kd.aN ba.out;have da : 0 ≤ ((fa) : Int):=oD;have ea : (fa) < (aa.length : Int):=oD;obtain ⟨ja,ma,ia⟩:=Kd.dn (Kd.dz ba.out).2.2 (fa) da ea;cases ma;replace da:=eq_true da;replace ea:=eq_true ea;go_wp2;go_ret;exact ⟨_,by first | rfl | (simp [errW_none,errW_some] <;> rfl) | (simp only [← ha];first | rfl | (simp [errW_none,errW_some] <;> rfl)) | (simp [*,errW_none,errW_some] <;> rfl),uR ba.out,uH HB.out,by repeat (first | (with_reducible first | exact HK.out | apply Kept.alloc | apply Kept.drewN | apply Kept.drew) | exact HK.out)⟩
   clear c6;replace H:=gN H;obtain ⟨c7,H⟩:=H;have Ha:=eq_true c7;have Ia : decide ((fa) ≤ (aa.length : Int)) = true:=decide_eq_true c7;clear c7;obtain ⟨na,ga⟩:=eY (aa.take ((fa) : Int).toNat : List Int);(try rw [←ga.out] at H);have H':=zA H;clear H;obtain ⟨Ka,Ja,rfl⟩:=Kd.aN ba.out;have da : 0 ≤ ((fa) : Int):=oD;have ea : (fa) < (aa.length : Int):=oD;obtain ⟨ja,ma,ia⟩:=Kd.dn (Kd.dz ba.out).2.2 (fa) da ea;cases ma;replace da:=eq_true da;replace ea:=eq_true ea;have q9 : ((fa) : Int) ≤ ((aa.length : Int) : Int):=oD;obtain ⟨i09,Ip,_,JL,_⟩:=info_parts jr;have Iq:=GI (P:=Try.prog) 24 2 .i64 Try.underlying24 Ip (some ja) aa.length Ja (fa) (of_decide_eq_true (by first | (with_reducible assumption) | assumption)) q9 (Kd.dz ba.out).2.1;have pa:=Kd.zO (m:=((fa) : Int).toNat) ba.out (by omega);have ya : na.length = ((fa) : Int).toNat:=(by rw [ga.out,List.length_take];omega);rw [← ga.out] at pa;rw [← ya] at pa Iq;clear ya Ip JL ba;have oa:=zA pa;clear pa;replace q9:=eq_true q9;go_wp2;go_roundg k1;(case measure=>have:=wa.out;omega);(case rel=>exact ⟨(na),H',⟨by have:=wa.out;omega⟩,⟨uR oa.out⟩,⟨by repeat (first | (with_reducible first | exact HK.out | apply Kept.alloc | apply Kept.drewN | apply Kept.drew) | exact HK.out)⟩,⟨uH HB.out⟩⟩)
/-! ### bB: function 10 -/
def bB.l0 : Nat → List Int → List Int → Int → Option (Bool)
 | 0,_,_,_=>none
 | k + 1,x0,x1,x5=>if x5 < (x0.length : Int) then (if 0 ≤ x5 then (if x5 < (x1.length : Int) then (if (rd x0 x5) = (rd x1 x5) then (bB.l0 k x0 x1 (wrap64 (x5 + 1))) else (some false)) else (none)) else (none)) else (some true)
def bB.f (k : Nat) (l0 : List Int) (l1 : List Int) : Option (Bool):=if (l0.length : Int) = (l1.length : Int) then (bB.l0 k l0 l1 0) else (some false)
theorem bB.calls (k : Nat) (A0 : Option Addr) (c0 : Nat) (l0 : List Int) (A1 : Option Addr) (c1 : Nat) (l1 : List Int) (r : Bool) (w : World) (sa : Kd.C (Kd.int .i64) w A0 l0.length l0) (ta : l0.length ≤ c0) (ua : Kd.C (Kd.int .i64) w A1 l1.length l1) (wa : l1.length ≤ c1) (H : bB.f k l0 l1 = some r) :
  Calls Try.prog 10 #[.slice A0 l0.length c0,.slice A1 l1.length c1] w fun e w'=>e = .returned (.bool r)∧aX w w':=by
 have xa:=zA sa;have Ca:=zA ta;clear sa ta;have ya:=zA ua;have Da:=zA wa;clear ua wa;unfold bB.f at H;replace H:=gE H;obtain ⟨c3,ma,na,H⟩|⟨c3,ma,na,H⟩:=H
 ·(have oa : (l0.length == l1.length) = false:=by first | simpa using c3 | (simp at c3 ⊢;omega));obtain rfl:=Option.some.inj H;go_enter Try.func10,Try.ntmps10;go_wp2;(repeat (go_quiet (fail);try go_wp2));go_ret;exact ⟨by first | rfl | (simp;done) | (simp [*];done),by repeat (first | exact aX.refl _ | apply aX.step)⟩
 (have oa : (l0.length == l1.length) = true:=by first | simpa using c3 | (simp at c3 ⊢;omega));clear c3;have H':=zA H;clear H;go_enter Try.func10,Try.ntmps10;go_wp2;(repeat (go_quiet (fail);try go_wp2));go_loopg [5] k (fun kq v5 w'=>∃ (aa : Int),v5 = .int .i64 aa∧ay (bB.l0 kq l0 l1 aa = some r)∧ay (kq ≤ k)∧aX w w');(case atStart=>exact ⟨(0),eS,H',⟨Nat.le_refl _⟩,by repeat (first | exact aX.refl _ | apply aX.step)⟩)
 case round =>
  clear H';obtain ⟨aa,rfl,HA,za,⟨m1,rfl⟩⟩:=hrel
  cases gk with
  | zero=>exact absurd HA.out (by simp [bB.l0])
  | succ k1 =>
   have H:=HA.out;clear HA;simp only [bB.l0] at H;replace H:=gF H;obtain ⟨pa,H⟩|⟨pa,H⟩:=H
   ·obtain rfl:=Option.some.inj H;go_wp2;(repeat (go_quiet (fail);try go_wp2));go_ret;exact ⟨by first | rfl | (simp;done) | (simp [*];done),by repeat (first | exact aX.refl _ | apply aX.step)⟩
   replace H:=gD H;obtain ⟨Aa,H⟩:=H;replace H:=gD H;obtain ⟨Ba,H⟩:=H;replace H:=gE H;obtain ⟨c7,qa,ra,H⟩|⟨c7,qa,ra,H⟩:=H
   ·obtain rfl:=Option.some.inj H;have ba : 0 ≤ (aa : Int):=oD;have ca : aa < (l0.length : Int):=oD;obtain ⟨ja,ha,fa⟩:=Kd.dn xa.out aa ba ca;cases ha;replace ba:=eq_true ba;replace ca:=eq_true ca;have da : 0 ≤ (aa : Int):=oD;have ea : aa < (l1.length : Int):=oD;obtain ⟨ka,ia,ga⟩:=Kd.dn ya.out aa da ea;cases ia;replace da:=eq_true da;replace ea:=eq_true ea;go_wp2;(repeat (go_quiet (fail);try go_wp2));go_ret;exact ⟨by first | rfl | (simp;done) | (simp [*];done),by repeat (first | exact aX.refl _ | apply aX.step)⟩
   clear c7;have H':=zA H;clear H;have ba : 0 ≤ (aa : Int):=oD;have ca : aa < (l0.length : Int):=oD;obtain ⟨ja,ha,fa⟩:=Kd.dn xa.out aa ba ca;cases ha;replace ba:=eq_true ba;replace ca:=eq_true ca;have da : 0 ≤ (aa : Int):=oD;have ea : aa < (l1.length : Int):=oD;obtain ⟨ka,ia,ga⟩:=Kd.dn ya.out aa da ea;cases ia;replace da:=eq_true da;replace ea:=eq_true ea;go_wp2;(repeat (go_quiet (fail);try go_wp2));go_roundg k1;(case measure=>have:=za.out;omega);(case rel=>exact ⟨(wrap64 (aa + 1)),eS,H',⟨by have:=za.out;omega⟩,by repeat (first | exact aX.refl _ | apply aX.step)⟩)
/-! ### cK: function 163 -/
def cK.l0 : Nat → List Int → (Int → Option Bool) → Int → Int → Option (Int)
 | 0,_,_,_,_=>none
 | k + 1,x0,x1,x7,x8=>if x8 < x7 then (if 0 ≤ x8 then (if x8 < (x0.length : Int) then ((x1 (rd x0 x8)).bind fun aa=>(if aa = true then (some x8) else (cK.l0 k x0 x1 x7 (wrap64 (x8 + 1))))) else (none)) else (none)) else (some (-1))
def cK.f (k : Nat) (l0 : List Int) (a1 : (Int → Option Bool)) : Option (Int):=cK.l0 k l0 a1 (l0.length : Int) 0
theorem cK.calls (k : Nat) (A0 : Option Addr) (c0 : Nat) (l0 : List Int) (F1 : Value) (a1 : (Int → Option Bool)) (r : Int) (w : World) (ha : Kd.C (Kd.int .i64) w A0 l0.length l0) (ia : l0.length ≤ c0) (hF1 : FnI Try.prog w F1 a1) (H : cK.f k l0 a1 = some r) :
  Calls Try.prog 163 #[.slice A0 l0.length c0,F1] w fun e w'=>e = .returned (.int .i64 r)∧Below w.heap.size w w':=by
 have ja:=zA ha;have pa:=zA ia;clear ha ia;obtain ⟨G1,fi1,ca1,rfl,nD,hF1⟩:=hF1;have nD : ∀ (args_ : Array Value) (w_ : World),(callFunc G1 args_).run Try.prog w_ = .ok (.enter G1 args_) w_:=nD;have HF1:=zA hF1;clear hF1;have HB:=zA (Below.refl w.heap.size w);unfold cK.f at H;have H':=zA H;clear H;go_enter Try.func163,Try.ntmps163;go_wp2;go_loopg [8] k (fun kq v8 w'=>∃ (aa : Int),v8 = .int .i64 aa∧ay (cK.l0 kq l0 a1 (l0.length : Int) aa = some r)∧ay (kq ≤ k)∧ay (Below w.heap.size w w'));(case atStart=>exact ⟨(0),eS,H',⟨Nat.le_refl _⟩,⟨uH HB.out⟩⟩)
 case round =>
  clear H';obtain ⟨aa,rfl,HA,ka,HB⟩:=hrel
  cases gk with
  | zero=>exact absurd HA.out (by simp [cK.l0])
  | succ k1 =>
   have H:=HA.out;clear HA;simp only [cK.l0] at H;replace H:=gF H;obtain ⟨ga,H⟩|⟨ga,H⟩:=H
   ·obtain rfl:=Option.some.inj H;go_wp2;go_ret;exact ⟨eX,uH HB.out⟩
   replace H:=gD H;obtain ⟨ma,H⟩:=H;replace H:=gD H;obtain ⟨na,H⟩:=H;replace H:=bO H;obtain ⟨oa,A6,H⟩:=H;replace H:=gB H;obtain ⟨rfl,H⟩|⟨rfl,H⟩:=H
   ·obtain rfl:=Option.some.inj H;have ca : 0 ≤ (aa : Int):=oD;have da : aa < (l0.length : Int):=oD;obtain ⟨fa,ea,ba⟩:=Kd.dn ja.out aa ca da;cases ea;replace ba:=hc HB ba;replace ca:=eq_true ca;replace da:=eq_true da;go_wp2_with (first | (go_at_fn G1;refine dw (args':=fi1 ++ #[.int .i64 (rd l0 aa)] ++ ca1) (by simp) ?_;refine (HF1.out (rd l0 aa) _ A6.out _ (uH HB.out)).mono ?_;rintro e w8 ⟨rfl,hb⟩;replace HB:=xH HB hb;(try clear hb)));go_ret;exact ⟨eX,uH HB.out⟩
   ·have H':=zA H;clear H;have ca : 0 ≤ (aa : Int):=oD;have da : aa < (l0.length : Int):=oD;obtain ⟨fa,ea,ba⟩:=Kd.dn ja.out aa ca da;cases ea;replace ba:=hc HB ba;replace ca:=eq_true ca;replace da:=eq_true da;go_wp2_with (first | (go_at_fn G1;refine dw (args':=fi1 ++ #[.int .i64 (rd l0 aa)] ++ ca1) (by simp) ?_;refine (HF1.out (rd l0 aa) _ A6.out _ (uH HB.out)).mono ?_;rintro e w9 ⟨rfl,hb⟩;replace HB:=xH HB hb;(try clear hb)));go_roundg k1;(case measure=>have:=ka.out;omega);(case rel=>exact ⟨(wrap64 (aa + 1)),eS,H',⟨by have:=ka.out;omega⟩,⟨uH HB.out⟩⟩)
end Go.Proofs.Ytknppcledhnkoaa.Pr
