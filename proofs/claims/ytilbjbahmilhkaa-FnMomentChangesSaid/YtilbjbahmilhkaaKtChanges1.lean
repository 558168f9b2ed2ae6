/- Texts of this session in one: what functions of the program compute, and plain facts of it, under the conditions that each theorem names. -/
import Derived.ArgAppend
import Derived.Below
import Derived.BigQuiet
import Derived.Deep.AppendLies
import Derived.Deep.CutBlock
import Derived.Deep.DeepCutAuto
import Derived.Deep.Draws
import Derived.Deep.LoopGhost
import Derived.Deep.OwnRows
import Derived.Deep.QuietTactic
import Derived.Deep.RegionHeld3
import Derived.KernelRfl
import Derived.Laws.BitsLemmas
import Derived.Laws.BytesArg
import Derived.Laws.IdiomCopy
import Derived.Laws.MakeOwn
import Derived.Laws.OwnMore
import Derived.Laws.Rows
import Derived.Laws.Slices
import Derived.Lib.AppendStr
import Derived.Lib.ConvBytes
import Derived.Maps.AppendAt
import Derived.OrdersHeld
import Derived.OwnWalk
import Derived.RowKit
import Derived.RowKit3
import Derived.Shelf.Abstract
import Derived.Tactics
import Derived.Test.YtilbjbahmilhkaaProg
import Derived.WalkKit
import Derived.WalkSpells
import Derived.WideLaws
import Derived.Test.YtilbjbahmilhkaaKWApart
import Derived.Test.YtilbjbahmilhkaaKWArr
import Derived.Test.YtilbjbahmilhkaaKWAt
import Derived.Test.YtilbjbahmilhkaaKWEqStruct
import Derived.Test.YtilbjbahmilhkaaKWFoot
import Derived.Test.YtilbjbahmilhkaaKWFootNe
import Derived.Test.YtilbjbahmilhkaaKWFour
import Derived.Test.YtilbjbahmilhkaaKWGuard
import Derived.Test.YtilbjbahmilhkaaKWInv
import Derived.Test.YtilbjbahmilhkaaKWInvWords
import Derived.Test.YtilbjbahmilhkaaKWKept
import Derived.Test.YtilbjbahmilhkaaKWLast
import Derived.Test.YtilbjbahmilhkaaKWMore
import Derived.Test.YtilbjbahmilhkaaKWN
import Derived.Test.YtilbjbahmilhkaaKWNEv
import Derived.Test.YtilbjbahmilhkaaKWQPut
import Derived.Test.YtilbjbahmilhkaaKWRepsOne
import Derived.Test.YtilbjbahmilhkaaKWShare
import Derived.Test.YtilbjbahmilhkaaKWTab
import Derived.Test.YtilbjbahmilhkaaKWWords
import Derived.Test.YtilbjbahmilhkaaKWZeros
namespace Go.Proofs.Ytilbjbahmilhkaa.Pr
/- Function values: what a caller is told of a value of function type (its call answers as a plain function says), and one step of a walk that calls it. -/
open Go.RowKit Go.Proofs.YtilbjbahmilhkaaW.PrintWords Go.Proofs.YtilbjbahmilhkaaW.PrintLast Go.Proofs.YtilbjbahmilhkaaW.PrintMore
section
variable {P : Program} {w W : World} {F : Value}

/-- F is a function value that takes nothing and answers b in every later world. -/
def FnB (P : Program) (w : World) (F : Value) (b : Bool) : Prop :=
  ∃ (g : FuncId) (fi ca : Array Value),F = .func (.func g) fi ca∧Enters P g ∧
    ∀ W,Below w.heap.size w W → Calls P g (fi ++ ca) W fun e W'=>e = .returned (.bool b)∧Below W.heap.size W W'
/-- F is a function value that takes a whole number x and answers f x. -/
def FnI (P : Program) (w : World) (F : Value) (f : Int → Option Bool) : Prop :=
  ∃ (g : FuncId) (fi ca : Array Value),F = .func (.func g) fi ca∧Enters P g ∧
    ∀ x r,f x = some r → ∀ W,Below w.heap.size w W → Calls P g (fi ++ #[.int .i64 x] ++ ca) W fun e W'=>e = .returned (.bool r)∧Below W.heap.size W W'
/-- F is a function value that takes a list l of whole numbers and answers f l. -/
def FnL (P : Program) (w : World) (F : Value) (f : List Int → Option Bool) : Prop :=
  ∃ (g : FuncId) (fi ca : Array Value),F = .func (.func g) fi ca∧Enters P g ∧
    ∀ l r A c,f l = some r → ∀ W,Below w.heap.size w W → Kd.C (Kd.int .i64) W A l.length l → l.length ≤ c →
      Calls P g (fi ++ #[.slice A l.length c] ++ ca) W fun e W'=>e = .returned (.bool r)∧Below W.heap.size W W'

theorem FnB.of {g : FuncId} {fn : Func} (hf : P.funcs[g]? = some fn) (hn : (fn.name == "runtime.NumGoroutine") = false) (hb : fn.body.isSome = true := by rfl) {fi ca : Array Value} {b : Bool}
    (h : ∀ W,Below w.heap.size w W → Calls P g (fi ++ ca) W fun e W'=>e = .returned (.bool b)∧Below W.heap.size W W') : FnB P w (.func (.func g) fi ca) b :=
  ⟨g,fi,ca,rfl,fun args W=>Cc hf hn hb args W,h⟩
theorem FnI.of {g : FuncId} {fn : Func} (hf : P.funcs[g]? = some fn) (hn : (fn.name == "runtime.NumGoroutine") = false) (hb : fn.body.isSome = true := by rfl) {fi ca : Array Value} {f : Int → Option Bool}
    (h : ∀ x r,f x = some r → ∀ W,Below w.heap.size w W → Calls P g (fi ++ #[.int .i64 x] ++ ca) W fun e W'=>e = .returned (.bool r)∧Below W.heap.size W W') : FnI P w (.func (.func g) fi ca) f :=
  ⟨g,fi,ca,rfl,fun args W=>Cc hf hn hb args W,h⟩
theorem FnL.of {g : FuncId} {fn : Func} (hf : P.funcs[g]? = some fn) (hn : (fn.name == "runtime.NumGoroutine") = false) (hb : fn.body.isSome = true := by rfl) {fi ca : Array Value} {f : List Int → Option Bool}
    (h : ∀ l r A c,f l = some r → ∀ W,Below w.heap.size w W → Kd.C (Kd.int .i64) W A l.length l → l.length ≤ c →
      Calls P g (fi ++ #[.slice A l.length c] ++ ca) W fun e W'=>e = .returned (.bool r)∧Below W.heap.size W W') : FnL P w (.func (.func g) fi ca) f :=
  ⟨g,fi,ca,rfl,fun args W=>Cc hf hn hb args W,h⟩

theorem FnB.later {F : Value} {b : Bool} (hb : Below w.heap.size w W) (h : FnB P w F b) : FnB P W F b:=by
  obtain ⟨g,fi,ca,e,he,h⟩:=h
  exact ⟨g,fi,ca,e,he,fun W2 h2=>h W2 (hb.trans (h2.mono hb.size))⟩
theorem FnI.later {F : Value} {f : Int → Option Bool} (hb : Below w.heap.size w W) (h : FnI P w F f) : FnI P W F f:=by
  obtain ⟨g,fi,ca,e,he,h⟩:=h
  exact ⟨g,fi,ca,e,he,fun x r hr W2 h2=>h x r hr W2 (hb.trans (h2.mono hb.size))⟩
theorem FnL.later {F : Value} {f : List Int → Option Bool} (hb : Below w.heap.size w W) (h : FnL P w F f) : FnL P W F f:=by
  obtain ⟨g,fi,ca,e,he,h⟩:=h
  exact ⟨g,fi,ca,e,he,fun l r A c hr W2 h2=>h l r A c hr W2 (hb.trans (h2.mono hb.size))⟩
end
/- Short names for what the printed walks spell out: facts of a world hold in each world that comes of it by new blocks and drawn numbers; no condition. -/
open Go Go.RowKit Go.Proofs.YtilbjbahmilhkaaW.PrintWords Go.Proofs.YtilbjbahmilhkaaW.PrintLast Go.Proofs.YtilbjbahmilhkaaW.PrintMore
/-- `w` comes of `w0` by new blocks and drawn numbers alone. -/
class Up (w0 w : World) : Prop where
  up : Below w0.heap.size w0 w
instance Up.refl (w : World) : Up w w:=⟨Below.refl _ _⟩
instance Up.alloc (w0 w : World) (o : Obj) [u : Up w0 w] : Up w0 (w.alloc o):=⟨fF u.up o⟩
instance Up.drew (w0 w : World) [u : Up w0 w] : Up w0 w.drew:=⟨aU u.up⟩
instance Up.drewN (w0 w : World) (n : Nat) [u : Up w0 w] : Up w0 (w.drewN n):=⟨bn u.up n⟩
instance Up.setDrewN (w0 w : World) (n : Nat) (a : Addr) (v : Value) [u : Up w0 (w.setCell a v)] : Up w0 ((w.drewN n).setCell a v):=⟨⟨u.up.os,u.up.tape,u.up.output,u.up.size,u.up.block⟩⟩
instance Up.setDrew (w0 w : World) (a : Addr) (v : Value) [u : Up w0 (w.setCell a v)] : Up w0 (w.drew.setCell a v):=⟨⟨u.up.os,u.up.tape,u.up.output,u.up.size,u.up.block⟩⟩
/-- The block lies behind the border. -/
class Geq (b g : Nat) : Prop where
  geq : b ≤ g
theorem geI {b g : Nat} (h : aa (b ≤ g)) : Geq b g:=⟨h.out⟩
/-- The same, and cells of own blocks may be set. -/
class UpS (b : Nat) (w0 w : World) : Prop where
  up : ∀ {w1 : World},b = w1.heap.size → Below b w1 w0 → Below b w1 w
instance UpS.refl (b : Nat) (w : World) : UpS b w w:=⟨fun _ h=>h⟩
instance UpS.alloc (b : Nat) (w0 w : World) (o : Obj) [u : UpS b w0 w] : UpS b w0 (w.alloc o):=⟨by rintro w1 rfl h;exact fF (u.up rfl h) o⟩
instance UpS.drew (b : Nat) (w0 w : World) [u : UpS b w0 w] : UpS b w0 w.drew:=⟨fun e h=>aU (u.up e h)⟩
instance UpS.drewN (b : Nat) (w0 w : World) (n : Nat) [u : UpS b w0 w] : UpS b w0 (w.drewN n):=⟨fun e h=>bn (u.up e h) n⟩
instance UpS.setCell (b : Nat) (w0 w : World) (g j : Nat) (v : Value) [u : UpS b w0 w] [q : Geq b g] : UpS b w0 (w.setCell ⟨g,j,none⟩ v):=⟨by rintro w1 rfl h;exact mG (u.up rfl h) q.geq⟩
section
variable {α : Type} {d : Kd α} {e : Nat} {w0 w w1 : World} {base : Nat} {ok : Nat → Prop} {v : Value} {xs : List α}
theorem uR (h : d.R e w0 base ok v xs) [u : Up w0 w] : d.R e w base ok v xs:=Kd.jU h u.up
theorem uC {A : Option Addr} {n : Nat} (h : d.C w0 A n xs) [u : Up w0 w] : d.C w A n xs:=Kd.dH h u.up
theorem uB {g : Nat} {o : Obj} (h : w0.heap[g]? = some o) [u : Up w0 w] : w.heap[g]? = some o:=bu h u.up
theorem uH (h : Below w1.heap.size w1 w0) [u : UpS w1.heap.size w0 w] : Below w1.heap.size w1 w:=u.up rfl h
theorem zA {p : Prop} (h : p) : aa p:=aa.mk h
theorem xB {g : Nat} {o : Obj} (h : aa (w0.heap[g]? = some o)) (hb : Below w.heap.size w w1) [u : Up w0 w] : aa (w1.heap[g]? = some o):=zA (bu (bu h.out u.up) hb)
theorem xR (h : aa (d.R e w0 base ok v xs)) (hb : Below w.heap.size w w1) [u : Up w0 w] : aa (d.R e w1 base ok v xs):=zA (Kd.jU (Kd.jU h.out u.up) hb)
theorem xH {W : World} (h : aa (Below W.heap.size W w0)) (hb : Below w.heap.size w w1) [u : UpS W.heap.size w0 w] : aa (Below W.heap.size W w1):=zA (dh (u.up rfl h.out) hb)
theorem neL {g : Nat} {o : Obj} (h : aa (w0.heap[g]? = some o)) [u : Up w0 w] : g ≠ w.heap.size:=Nat.ne_of_lt (qK (bu h.out u.up))
theorem neG {g : Nat} {o : Obj} (h : aa (w0.heap[g]? = some o)) [u : Up w0 w] : w.heap.size ≠ g:=Nat.ne_of_gt (qK (bu h.out u.up))
end
section
variable {α β : Type} {f : α → β} {x a : α} {l : List α} {i : Nat}
theorem la : Array.map f l.toArray = (l.map f).toArray:=List.map_toArray
theorem lb : List.map f (a :: l) = f a :: List.map f l:=List.map_cons
theorem lc : List.map f [] = []:=List.map_nil
theorem ld : (l.drop i).length = l.length - i:=List.length_drop
theorem le : (l.take i).length = min i l.length:=List.length_take
theorem ls (l : List α) (i : Nat) (a : α) : l.toArray.setIfInBounds i a = (l.set i a).toArray:=List.setIfInBounds_toArray l i a
theorem lz : (x :: l).set 0 a = a :: l:=List.set_cons_zero
theorem ln : (x :: l).set (i + 1) a = x :: l.set i a:=List.set_cons_succ
end
/-- What copy(xs, ys) makes of xs. -/
def cpy (xs ys : List Int) : List Int:=ys.take (min ys.length xs.length) ++ xs.drop (min ys.length xs.length)
section
variable {P : Program} {ops : Array Oper} {rest : List Oper} {o : Oper} {a : Act} {Q : Exit → Act → World → Prop}
end
attribute [local go_sem] oz oC qG qH mX mY oF oG   -- for this text's walks alone
set_option linter.unusedVariables false
set_option linter.unusedSimpArgs false
def ahX : Option Int → Value
  | none => .nilIface
  | some c => .iface 0 (.int .i64 c)
theorem gY : ahX none = .nilIface := rfl
theorem ic (c : Int) : ahX (some c) = .iface 0 (.int .i64 c) := rfl

theorem mf : (Try.prog.info? 2).map (fun i => (i.zero, i.size, i.bytes)) = some (some (.int .i64 0), 1, 8) := by kernel_rfl
theorem awV : (Try.prog.info? 9).map (fun i => (i.zero, i.size, i.bytes)) = some (some (.string ⟨#[]⟩), 1, 16) := by kernel_rfl
theorem Sr : (Try.prog.info? 24).map (fun i => (i.zero, i.size, i.bytes)) = some (some (.slice none 0 0), 1, 24) := by kernel_rfl
-- the values' own types
def uq (xs : List (List Int)) (i : Int) : (List Int) := xs.getD i.toNat ([] : List Int)
theorem Ut {w : World} {A : Option Addr} {n : Nat} {xs : List (List Int)} (h : Kd.C (Kd.slice 2 (Kd.int .i64)) w A n xs) (i : Int) (h0 : 0 ≤ i) (h1 : i < n) : ∃ ad A0 c0, A = some ad ∧ w.cell? (ad.add i.toNat) = some (.slice A0 (uq xs i).length c0) ∧ (uq xs i).length ≤ c0 ∧ (Kd.int .i64).C w A0 (uq xs i).length (uq xs i) := by
  obtain ⟨ad, c, e, _, hK, hc0⟩ := Kd.abr h ([] : List Int) i h0 h1
  have hc : ∀ j u, c[j]? = some u → w.cell? (ad.add (i.toNat * 1 + j)) = some u := hc0
  obtain ⟨A0, c0, rfl, l0, g0⟩ := hK
  exact ⟨ad, A0, c0, e, by have hq := hc 0 _ rfl; rwa [Nat.mul_one, Nat.add_zero] at hq, l0, g0⟩

def PO (xs : List (List (List Int))) (i : Int) : (List (List Int)) := xs.getD i.toNat ([] : List (List Int))
theorem awW {w : World} {A : Option Addr} {n : Nat} {xs : List (List (List Int))} (h : Kd.C (Kd.slice 24 (Kd.slice 2 (Kd.int .i64))) w A n xs) (i : Int) (h0 : 0 ≤ i) (h1 : i < n) : ∃ ad A0 c0, A = some ad ∧ w.cell? (ad.add i.toNat) = some (.slice A0 (PO xs i).length c0) ∧ (PO xs i).length ≤ c0 ∧ (Kd.slice 2 (Kd.int .i64)).C w A0 (PO xs i).length (PO xs i) := by
  obtain ⟨ad, c, e, _, hK, hc0⟩ := Kd.abr h ([] : List (List Int)) i h0 h1
  have hc : ∀ j u, c[j]? = some u → w.cell? (ad.add (i.toNat * 1 + j)) = some u := hc0
  obtain ⟨A0, c0, rfl, l0, g0⟩ := hK
  exact ⟨ad, A0, c0, e, by have hq := hc 0 _ rfl; rwa [Nat.mul_one, Nat.add_zero] at hq, l0, g0⟩
/- slices.Clone at []int64: a new row with the same numbers (nil stays nil). -/
def kw.f (l : List Int) : Option (List Int):=if l.length < 17592186044416 then some l else none

set_option maxHeartbeats 8000000 in
set_option maxRecDepth 100000 in
theorem kw.calls (A0 : Option Addr) (c0 : Nat) (l0 : List Int) (r : List Int) (w : World) (hr0 : Kd.C (Kd.int .i64) w A0 l0.length l0) (hc0 : l0.length ≤ c0) (h : kw.f l0 = some r) :
    Calls Try.prog 91 #[.slice A0 l0.length c0] w fun e w'=>∃ v0_ : Value,e = .returned (v0_)∧Kd.R (Kd.int .i64) 2 w' w.heap.size (fun _=>True) v0_ r∧Below w.heap.size w w':=by
  have hnil : ∀ (W : World) (a : Option Addr) (n c : Nat),(Go.binOp .eql 24 (.slice a n c) (.slice none 0 0)).run Try.prog W = .ok (.bool a.isNone) W:=fun W a n c=>Lib.run_eql_slice_nil W 24 2 a n c 0 0 Try.underlying24
  unfold kw.f at h
  split at h
  case isFalse=>cases h
  rename_i c2
  obtain rfl:=Option.some.inj h
  clear h
  have HR0:=aa.mk hr0
  have HC0:=aa.mk hc0
  clear hr0 hc0
  have HB:=aa.mk (Below.refl w.heap.size w)
  have adY:=aa.mk c2
  clear c2
  cases A0 with
  | none =>
    have hl : l0 = []:=by
      rcases l0 with _ | ⟨x,l⟩
      · rfl
      · obtain ⟨ad,e,_⟩:=Kd.gK HR0.out 0 (by omega) (by simp only [List.length_cons];omega)
        cases e
    subst hl
    go_enter Try.func91,Try.ntmps91
    go_wp2
    go_ret
    exact ⟨_,rfl,Kd.qM _ _ _ _ _,HB.out⟩
  | some ad0 =>
    obtain ⟨ahY,abt⟩ : ∃ y_ : List Int,y_ = (([] : List Int)):=⟨_,rfl⟩
    have PP:=aa.mk abt
    clear abt
    obtain ⟨arB,abu⟩ : ∃ y_ : List Int,y_ = (ahY ++ l0):=⟨_,rfl⟩
    have abv:=aa.mk abu
    clear abu
    go_enter Try.func91,Try.ntmps91
    go_wp2_with (first | ((with_reducible refine dz (N:=5) rfl ?_);refine Kd.rD (Kd.int .i64) _ 2 ?hg (N:=5) ?hd (xs:=([] : List Int)) (inner:=[]) (ok:=fun _=>True) (okp:=fun _=>True) ?hr ?hp (fun _ hk=>hk) trivial (Below.refl _ _) (Nat.le_refl _) (by simp) ?_;(case hd=>rfl);(case hg=>rfl);(case hr=>first | (go_simp;done) | (go_simp;rfl));(case hp=>exact (cB.none _ _));intro arC w3 ho4 hb hg_ hnew_;clear hg_ hnew_;(first | rw [← PP.out] at ho4 | (simp only [Int.reduceToNat] at ho4;rw [← PP.out] at ho4));have n0_:=aa.mk (Kd.bv ho4 (av (by repeat (first | (with_reducible first | exact HB.out | apply fF | apply bn | apply aU) | exact HB.out))));have n1_:=aa.mk (dh (by repeat (first | (with_reducible first | exact HB.out | apply fF | apply bn | apply aU) | exact HB.out)) hb);clear HB;have abw:=n0_;have HB:=n1_;clear n0_ n1_;clear hb ho4) | ((with_reducible refine fJ (b:=.append) (xs:=#[.tmp 5,.tmp 6]) rfl ?_);at_builtin;refine Kd.xw (Kd.int .i64) (w0:=w) w.heap.size rfl (.tmp 5) (.tmp 6) 24 2 (.int .i64 0) 8 rfl Try.underlying24 mf rfl (by decide) (by omega) arC ahY l0 _ _ _ (fun _=>True) (fun _=>False) rfl rfl ?aO ?aR (fun _ _ h=>h) (fun _ h=>h.elim) ?aF ?aB ?aS ?aL ?_;(case aR=>repeat (first | exact (Kd.dH HR0.out HB.out) | (with_reducible refine Kd.zt ?_ _) | (with_reducible refine Kd.zu ?_ _) | (with_reducible refine Kd.Dz ?_)));(case aB=>exact (by repeat (first | (with_reducible first | exact HB.out | apply fF | apply bn | apply aU) | exact HB.out)));(case aF=>exact (fun _ _=>trivial));(case aO=>exact (by (with_reducible repeat (first | apply Kd.PQ | apply Kd.JZ | apply Kd.jJ));exact abw.out));(case aS=>exact (av (by repeat (first | (with_reducible first | exact HB.out | apply fF | apply bn | apply aU) | exact HB.out))));(case aL=>have:=adY.out;have e:=PP.out;rw [e];simp;omega);intro ayE w5 ho hb hg hat;rw [← abv.out] at ho;have n0_:=aa.mk (hb);have n1_:=aa.mk (ho);clear HB;clear abw;have HB:=n0_;have ahZ:=n1_;clear n0_ n1_;clear ho hb hg hat))
    go_ret
    have e : l0 = arB:=by rw [abv.out,PP.out];rfl
    rw [e]
    exact ⟨_,rfl,by (with_reducible repeat (first | apply Kd.PQ | apply Kd.JZ | apply Kd.jJ));exact ahZ.out,by repeat (first | (with_reducible first | exact HB.out | apply fF | apply bn | apply aU) | exact HB.out)⟩
/- Short steps of a walk through a region whose order is drawn (each stands for a row that the print spells out); no condition. -/
/-- The lowest n bits of m. -/
def bq : Nat → Nat → List Bool
  | 0,_=>[]
  | n + 1,m=>(m % 2 == 1) :: bq n (m / 2)
def bl (n m : Nat) : Array Bool:=⟨bq n m⟩
section
variable {P : Program} {ops : Array Oper} {Q : Exit → Act → World → Prop} {S : World → Prop} {ds : List Nat} {T : Bool × List (List Nat × List Nat)} {B : List Nat} {fuel : Nat} {l : Array Bool} {a a' : Act} {w : World} {oi : Oper} {v : Value}
theorem pu_ (i : Nat) (N : Tmp) (l' : Array Bool) (HT : aa (l6 .any ops = T)) (h : cK P .any ops Q S ds fuel l' a' w)
    (hi : ops[i]? = some oi:=by rfl) (hN : oi.dst = some N:=by rfl) (hc : Yv T l.toList l'.toList i = true:=by kernel_rfl)
    (hQ : ∀ c a w,Q (.panic c) (a.put oi.dst v) w → Q (.panic c) a w:=by exact fun _ _ _ h=>h)
    (hy : Yields P ops oi v a:=by exact Or.inl ⟨by rfl,by intro w';go_simp;with_reducible rfl⟩)
    (ha : a.put (some N) v = a':=by (simp only [Act.put,ls,lz,ln,jZ,nJ];rfl)) : cK P .any ops Q S ds (fuel + 1) l a w :=
  Li l' hi hN (Uo HT.out hc) hQ hy ha h
theorem un_ (i : Nat) (N : Tmp) (l' : Array Bool) (HT : aa (l6 .any ops = T)) (h : cK P .any ops Q S ds fuel l' a' w)
    (hi : ops[i]? = some oi:=by rfl) (hN : oi.dst = some N:=by rfl) (hc : Yv T l.toList l'.toList i = true:=by kernel_rfl)
    (hQ : ∀ c a w,Q (.panic c) (a.put oi.dst undef) w → Q (.panic c) a w:=by exact fun _ _ _ h=>h)
    (hy : Yields P ops oi undef a:=by exact Or.inr ⟨by rfl,rfl⟩)
    (ha : a.put (some N) undef = a':=by (simp only [Act.put,ls,lz,ln,jZ,nJ];rfl)) : cK P .any ops Q S ds (fuel + 1) l a w :=
  Li l' hi hN (Uo HT.out hc) hQ hy ha h
theorem ta_ (i : Nat) (N : Tmp) (l' : Array Bool) (HT : aa (l6 .any ops = T)) (HW : aa (jV T.2 B = true)) (hS : S w) (h : cK P .any ops Q S ds fuel l' a' w)
    (hi : ops[i]? = some oi:=by rfl) (hN : oi.dst = some N:=by rfl) (hc : Ur T B ds l.toList l'.toList i = true:=by kernel_rfl)
    (hQ : ∀ c a w,Q (.panic c) (a.put oi.dst v) w → Q (.panic c) a w:=by exact fun _ _ _ h=>h)
    (hy : YieldsIf P ops S oi v a:=by exact Or.inl ⟨by rfl,by intro w' hs;go_simp;with_reducible rfl⟩)
    (ha : a.put (some N) v = a':=by (simp only [Act.put,ls,lz,ln,jZ,nJ];rfl)) : cK P .any ops Q S ds (fuel + 1) l a w :=
  IC l' hi hN (Us HT.out HW.out hc) hQ hy hS ha h
theorem on_ (i : Nat) (N : Option Tmp) (l' : Array Bool) (HT : aa (l6 .any ops = T))
    (h : ∀ K : Act → World → Prop,Shut (∀ a' w',S w' → (S w' → cK P .any ops Q S ds fuel l' a' w') → K a' w') → if Region.wanted oi (yielded ops a.tmps) = true then Oper.wp P oi a w K Q else K (a.put N undef) w)
    (hi : ops[i]? = some oi:=by rfl) (hN : oi.dst = N:=by rfl) (hc : (r9 T.2 l.toList == [i] && l.toList.set i true == l'.toList) = true:=by kernel_rfl) (hd : i ∉ ds:=by decide) : cK P .any ops Q S ds (fuel + 1) l a w :=
  Ti l' hi hN (uj HT.out hc) hd h
theorem no_ {a0 : Act} (N : Tmp) (h : cK P .any ops Q S ds fuel l a' w) (ha : a0.put (some N) v = a':=by (simp only [Act.put,ls,lz,ln,jZ,nJ];rfl)) : cK P .any ops Q S ds fuel l (a0.put (some N) v) w:=dZ ha h
end
/- One more short step: what is read at the world where it comes up; no condition. -/
section
variable {P : Program} {ops : Array Oper} {Q : Exit → Act → World → Prop} {S : World → Prop} {ds : List Nat} {T : Bool × List (List Nat × List Nat)} {fuel : Nat} {l : Array Bool} {a a' : Act} {w : World} {oi : Oper} {v : Value}
theorem lo_ (i : Nat) (N : Tmp) (l' : Array Bool) (HT : aa (l6 .any ops = T)) (hS : S w) (h : cK P .any ops Q S ds fuel l' a' w)
    (hi : ops[i]? = some oi:=by rfl) (hN : oi.dst = some N:=by rfl) (hc : (r9 T.2 l.toList == [i] && l.toList.set i true == l'.toList) = true:=by kernel_rfl) (hd : i ∉ ds:=by decide)
    (hw : Region.wanted oi (yielded ops a.tmps) = true:=by rfl) (hrun : (execOp a.eval oi).run P w = .ok (.value v) w:=by (go_simp;with_reducible rfl))
    (ha : a.put (some N) v = a':=by (simp only [Act.put,ls,lz,ln,jZ,nJ];rfl)) : cK P .any ops Q S ds (fuel + 1) l a w:=by
  subst ha
  exact Ti l' hi hN (uj HT.out hc) hd (fun K hK=>yT hw hN hrun (hK.out _ _ hS (fun _=>h)))
end
instance Up.agK (w0 w : World) (n : Nat) (a b : Addr) (v u : Value) [q : Up w0 ((w.setCell a v).setCell b u)] : Up w0 (((w.drewN n).setCell a v).setCell b u):=⟨⟨q.up.os,q.up.tape,q.up.output,q.up.size,q.up.block⟩⟩
instance Up.agL (w0 w : World) (n : Nat) (a b c : Addr) (v u x : Value) [q : Up w0 (((w.setCell a v).setCell b u).setCell c x)] : Up w0 ((((w.drewN n).setCell a v).setCell b u).setCell c x):=⟨⟨q.up.os,q.up.tape,q.up.output,q.up.size,q.up.block⟩⟩
/- More short forms of what the printed walks spell out; no condition. -/
/-- The block k is not the row v's own. -/
abbrev ax (k : Nat) (v : Value) : Prop:=some k ≠ v.ownBlock
theorem bc {w : World} {g : Nat} {t : TypeId} {cs : Array Value} (h : aa (w.heap[g]? = some (.cells cs t (0,0)))) (i : Nat) {v : Value} (hv : cs[i]? = some v:=by rfl) : w.cell? ⟨g,i,none⟩ = some v:=(bG h.out i).trans hv
theorem bcu {w0 w : World} {g : Nat} {t : TypeId} {cs : Array Value} (h : aa (w0.heap[g]? = some (.cells cs t (0,0)))) (i : Nat) {v : Value} [u : Up w0 w] (hv : cs[i]? = some v:=by rfl) : w.cell? ⟨g,i,none⟩ = some v:=(bG (uB h.out) i).trans hv
theorem bf {w : World} {g : Nat} {t : TypeId} {cs : Array Value} (h : aa (w.heap[g]? = some (.cells cs t (0,0)))) (i : Nat) : w.frozen? ⟨g,i,none⟩ = false:=ko h.out i
theorem gq {b w w0 : World} {g : Nat} (HB : aa (Below b.heap.size b w0)) (hg : g = w.heap.size) [u : UpS b.heap.size w0 w] : aa (b.heap.size ≤ g):=⟨by rw [hg];exact av (u.up rfl HB.out)⟩
theorem hc {b w : World} {p : Addr} {v : Value} (HB : aa (Below b.heap.size b w)) (h : b.cell? p = some v) : w.cell? p = some v:=(HB.out.cell (World.block_lt_of_cell? b p h)).trans h
theorem hcu {b w0 w : World} {p : Addr} {v : Value} (HB : aa (Below b.heap.size b w0)) (h : b.cell? p = some v) [u : UpS b.heap.size w0 w] : w.cell? p = some v:=((u.up rfl HB.out).cell (World.block_lt_of_cell? b p h)).trans h
section
variable {P : Program} {ops : Array Oper} {Q : Exit → Act → World → Prop} {rest : List Oper} {oi : Oper} {a : Act} {w : World} {f : FuncId} {fn : Func} {az : Array Operand} {ts : Array TypeId}
theorem gL (N : Option Tmp) (hf : P.funcs[f]? = some fn) (args : Array Value) (h : Calls P f args w fun e w'=>∃ v,e = .returned v∧wpList P ops Q rest (a.put N v) w')
    (hd : oi.dst = N := by rfl) (hg : oi.guard = none := by rfl) (hname : (fn.name == "runtime.NumGoroutine") = false := by kernel_rfl) (hb : fn.body.isSome = true := by rfl)
    (hop : oi.op = .call { callee:=.value (.func f),args:=az,argTypes:=ts }:=by rfl) (hargs : az.map a.eval = args:=by ((try simp only [la,lb,lc]);first | done | rfl | (simp only [ld,le];rfl))) : wpList P ops Q (oi :: rest) a w :=
  yK N hd hg hf hname hb args hop hargs h
theorem bx (N : Tmp) (cs : Array Value) (t : TypeId) (h : ∀ g,g = w.heap.size → ∀ w1,w1.heap[g]? = some (.cells cs t (0,0)) → Below w.heap.size w w1 → wpList P ops Q rest (a.put oi.dst (.pointer (some ⟨g,0,none⟩))) w1)
    (hd : oi.dst = some N:=by rfl) (hg : oi.guard = none:=by rfl)
    (hr : (execOp a.eval oi).run P w = .ok (.value (.pointer (some ⟨w.heap.size,0,none⟩))) (w.alloc (.cells cs t (0,0))):=by first | (go_simp;done) | (go_simp;rfl)) : wpList P ops Q (oi :: rest) a w :=
  Iy hg hd hr h
theorem gS {N : Option Tmp} {K : Act → World → Prop} (hf : P.funcs[f]? = some fn) (args : Array Value) (h : Calls P f args w fun e w'=>∃ v,e = .returned v∧K (a.put N v) w')
    (hname : (fn.name == "runtime.NumGoroutine") = false := by kernel_rfl) (hb : fn.body.isSome = true := by rfl) (hw : Region.wanted oi (yielded ops a.tmps) = true := by rfl) (hN : oi.dst = N := by rfl)
    (hop : oi.op = .call { callee:=.value (.func f),args:=az,argTypes:=ts }:=by rfl) (hargs : az.map a.eval = args:=by ((try simp only [la,lb,lc]);first | done | rfl | (simp only [ld,le];rfl))) : if Region.wanted oi (yielded ops a.tmps) = true then Oper.wp P oi a w K Q else K (a.put N undef) w :=
  EE hf hname hb args hw hN hop hargs h
end
/-- One step back: a new block, or drawn numbers. -/
class Up1 (w : outParam World) (w1 : World) : Prop where
  up : Below w.heap.size w w1
instance Up1.alloc (w : World) (o : Obj) : Up1 w (w.alloc o):=⟨fF (Below.refl _ _) o⟩
instance Up1.drew (w : World) : Up1 w w.drew:=⟨aU (Below.refl _ _)⟩
instance Up1.drewN (w : World) (n : Nat) : Up1 w (w.drewN n):=⟨bn (Below.refl _ _) n⟩
theorem up1 {w w1 : World} {g : Nat} {o : Obj} [u : Up1 w w1] (h : w.heap[g]? = some o) : w1.heap[g]? = some o:=bu h u.up
section
variable {α : Type} {d : Kd α} {e base g t : Nat} {ok : Nat → Prop} {w : World} {v : Value} {xs : List α} {cells : Array Value}
/-- A row stays where the cells of a block of another type are set. -/
theorem rf2 (h : aa (d.R e w base ok v xs)) (hb : aa (w.heap[g]? = some (.cells cells t (0,0)))) (ht : ∀ q,q ∈ e :: d.E → q ≠ t) (a b : Value) : d.R e ((w.setCell ⟨g,0,none⟩ a).setCell ⟨g,1,none⟩ b) base ok v xs :=
  Kd.af (Kd.bA (p:=⟨g,1,none⟩) (Kd.bA (p:=⟨g,0,none⟩) (Kd.bI h.out hb.out ht) (fun _ hk=>hk.2) a) (fun _ hk=>hk.2) b) (fun _ hk=>hk.1)
end
/- Short forms of rows that a great law's printed walk tells again and again; no condition. -/
section
variable {α β γ : Type} {d : Kd α} {d0 : Kd β} {d1 : Kd γ} {e e0 e1 base b0 : Nat} {ok ok0 ok1 : Nat → Prop} {W w w1 : World} {u v v0 v1 : Value} {xs : List α} {xs0 : List β} {xs1 : List γ}
theorem td2 (hu : d.R e W base ok u xs) (hb : Below W.heap.size W w1) (h0 : d0.R e0 w1 W.heap.size ok0 v0 xs0) (h1 : d1.R e1 w1 W.heap.size ok1 v1 xs1) : aa (d.R e w1 base (fun k=>(ok k∧some k ≠ v0.ownBlock)∧some k ≠ v1.ownBlock) u xs) :=
  zA (Kd.af (Kd.rY (Kd.rY (Kd.ag8 hu hb) (Kd.bD h0)) (Kd.bD h1)) (fun _ h=>h.1))
theorem nw (h : d.R e w1 W.heap.size ok v xs) (h' : d0.R e0 W b0 ok0 u xs0) : d.R e w1 W.heap.size (fun k=>ok k∧some k ≠ u.ownBlock) v xs:=Kd.aer h (Kd.xx h')
theorem rc {A : Option Addr} {n c : Nat} (h : d.R e w base ok (.slice A n c) xs) : d.C w A xs.length xs:=(Kd.aK h).2.2
end
set_option maxHeartbeats 8000000
set_option maxRecDepth 100000
/-! ### jw: function 36 -/
def jw.f (l0 : List Int) : Option (Int):=some (l0.length : Int)
theorem jw.calls (A0 : Option Addr) (c0 : Nat) (l0 : List Int) (r : Int) (w : World) (hr0 : Kd.C (Kd.int .i64) w A0 l0.length l0) (hc0 : l0.length ≤ c0) (H : jw.f l0 = some r) :
  Calls Try.prog 36 #[.slice A0 l0.length c0] w fun e w'=>e = .returned (.int .i64 r)∧aQ w w':=by
 have HR0:=zA hr0;have HC0:=zA hc0;clear hr0 hc0;unfold jw.f at H;obtain rfl:=Option.some.inj H;go_enter Try.func36,Try.ntmps36;go_wp2;go_ret;exact ⟨by first | rfl | (simp;done) | (simp [*];done),by repeat (first | exact aQ.refl _ | apply aQ.step)⟩
/-! ### rH: function 5 -/
def rH.f (l0 : List Int) : Option (Bool):=some (decide ((l0.length : Int) > 4096))
theorem rH.calls (A0 : Option Addr) (c0 : Nat) (l0 : List Int) (r : Bool) (w : World) (hr0 : Kd.C (Kd.int .u8) w A0 l0.length l0) (hc0 : l0.length ≤ c0) (H : rH.f l0 = some r) :
  Calls Try.prog 5 #[.slice A0 l0.length c0] w fun e w'=>e = .returned (.bool r)∧aQ w w':=by
 have HR0:=zA hr0;have HC0:=zA hc0;clear hr0 hc0;unfold rH.f at H;obtain rfl:=Option.some.inj H;go_enter Try.func5,Try.ntmps5;go_wp2;go_ret;exact ⟨by first | rfl | (simp;done) | (simp [*];done),by repeat (first | exact aQ.refl _ | apply aQ.step)⟩
/- Steps that stand in for tactics told again and again: the proofs are found where the lemma is called. -/
theorem eX {α : Type} {a b : α} (h : a = b:=by first | rfl | (simp [gY,ic] <;> rfl) | (simp [*,gY,ic] <;> rfl)) : a = b:=h
theorem eS {α : Type} {a b : α} (h : a = b:=by first | rfl | (simp;done) | (simp [*];done)) : a = b:=h
section
variable {α : Type} {d : Kd α} {e base : Nat} {ok : Nat → Prop} {w W : World} {v : Value} {xs : List α}
theorem uV {w0 : World} (h : Kd.V d e w0 base ok v xs) [u : Up w0 w] : Kd.V d e w base ok v xs:=Kd.Fb h u.up
theorem uN {w0 : World} (h : Kd.N d e w0 base ok v xs) [u : Up w0 w] : Kd.N d e w base ok v xs:=Kd.J2 h u.up
end
/- Steps that take a told equation apart: a condition that must hold, one of two ways, an answer bound; no condition. -/
section
variable {α β : Type} {P : Prop} [Decidable P] {x y : Option α} {r : α}
theorem gI (h : (if P then x else y) = some r) : (¬ P∧y = some r) ∨ (P∧x = some r):=by
  by_cases c : P
  · exact .inr ⟨c,by rwa [if_pos c] at h⟩
  · exact .inl ⟨c,by rwa [if_neg c] at h⟩
theorem gN (h : (if P then x else none) = some r) : P∧x = some r:=by
  rcases gI h with ⟨_,h⟩ | h
  · cases h
  · exact h
theorem gD (h : (if P then x else none) = some r) : decide P = true∧x = some r:=⟨decide_eq_true (gN h).1,(gN h).2⟩
theorem gZ (h : (if P then x else none) = some r) : aa P∧x = some r:=⟨⟨(gN h).1⟩,(gN h).2⟩
theorem gF (h : (if P then x else y) = some r) : (decide P = false∧y = some r) ∨ (decide P = true∧x = some r) :=
  (gI h).imp (fun h=>⟨decide_eq_false h.1,h.2⟩) (fun h=>⟨decide_eq_true h.1,h.2⟩)
theorem gE {γ : Type} [BEq γ] [LawfulBEq γ] {a b : γ} [Decidable (a = b)] (h : (if a = b then x else y) = some r) : (¬ a = b∧(a == b) = false∧(a != b) = true∧y = some r) ∨ (a = b∧(a == b) = true∧(a != b) = false∧x = some r) :=
  (gI h).imp (fun h=>⟨h.1,beq_eq_false_iff_ne.mpr h.1,bne_iff_ne.mpr h.1,h.2⟩) (fun h=>⟨h.1,beq_iff_eq.mpr h.1,bne_eq_false_iff_eq.mpr h.1,h.2⟩)
theorem gB {t : Bool} (h : (if t = true then x else y) = some r) : (t = true∧x = some r) ∨ (t = false∧y = some r):=by
  cases t
  · exact .inr ⟨rfl,h⟩
  · exact .inl ⟨rfl,h⟩
theorem oD (h : decide P = true:=by first | (with_reducible assumption) | assumption) : P:=of_decide_eq_true h
end
section
variable {α β : Type} {r : α}
theorem bO {x : Option β} {f : β → Option α} (h : x.bind f = some r) : ∃ a,aa (x = some a)∧f a = some r:=by
  obtain ⟨a,h1,h2⟩:=Option.bind_eq_some_iff.mp h
  exact ⟨a,⟨h1⟩,h2⟩
theorem bS {e : β} {f : β → Option α} (h : (some e).bind f = some r) : ∃ y,aa (y = e)∧f y = some r:=⟨e,⟨rfl⟩,h⟩
theorem eY (e : β) : ∃ y,aa (y = e):=⟨e,⟨rfl⟩⟩
end
/-! ### iQ: function 108 -/
def iQ.f (a0 : Int) (fC : (Int → Option Bool)) : Option (Bool):=(fC a0).bind fun ah0=>(some (!ah0))
theorem iQ.calls (a0 : Int) (gc1 : Nat) (Uu : Value) (fC : (Int → Option Bool)) (r : Bool) (w : World) (hb1 : w.heap[gc1]? = some (.cells #[Uu] 76 (0,0))) (Ce : FnI Try.prog w Uu fC) (H : iQ.f a0 fC = some r) :
  Calls Try.prog 108 #[.int .i64 a0,.pointer (some ⟨gc1,0,none⟩)] w fun e w'=>e = .returned (.bool r)∧Below w.heap.size w w':=by
 obtain ⟨N7,Uv,Uw,rfl,GG,Ce⟩:=Ce;have GG : ∀ (args_ : Array Value) (w_ : World),(callFunc N7 args_).run Try.prog w_ = .ok (.enter N7 args_) w_:=GG;have Ux:=zA Ce;clear Ce;have BK1:=zA hb1;clear hb1;have HB:=zA (Below.refl w.heap.size w);unfold iQ.f at H;replace H:=bO H;obtain ⟨ah0,A3,H⟩:=H;obtain rfl:=Option.some.inj H;have Nh:=bc BK1 0;have Nl:=bf BK1 0;go_enter Try.func108,Try.ntmps108;go_wp2_with (first | (go_at_fn N7;refine eD (args':=Uv ++ #[.int .i64 a0] ++ Uw) (by simp) ?_;refine (Ux.out a0 _ A3.out _ (uH HB.out)).mono ?_;rintro e w5 ⟨rfl,hb⟩;replace BK1:=xB BK1 hb;replace HB:=xH HB hb;(try clear hb)));go_ret;exact ⟨eX,uH HB.out⟩
/-! ### jd: function 110 -/
def jd.f (l0 : List Int) (fC : (List Int → Option Bool)) : Option (Bool):=(fC l0).bind fun ah1=>(some (!ah1))
theorem jd.calls (A0 : Option Addr) (c0 : Nat) (l0 : List Int) (gc1 : Nat) (Uu : Value) (fC : (List Int → Option Bool)) (r : Bool) (w : World) (hr0 : Kd.C (Kd.int .i64) w A0 l0.length l0) (hc0 : l0.length ≤ c0) (hb1 : w.heap[gc1]? = some (.cells #[Uu] 101 (0,0))) (Ce : FnL Try.prog w Uu fC) (H : jd.f l0 fC = some r) :
  Calls Try.prog 110 #[.slice A0 l0.length c0,.pointer (some ⟨gc1,0,none⟩)] w fun e w'=>e = .returned (.bool r)∧Below w.heap.size w w':=by
 have HR0:=zA hr0;have HC0:=zA hc0;clear hr0 hc0;obtain ⟨N7,Uv,Uw,rfl,GG,Ce⟩:=Ce;have GG : ∀ (args_ : Array Value) (w_ : World),(callFunc N7 args_).run Try.prog w_ = .ok (.enter N7 args_) w_:=GG;have Ux:=zA Ce;clear Ce;have BK1:=zA hb1;clear hb1;have HB:=zA (Below.refl w.heap.size w);unfold jd.f at H;replace H:=bO H;obtain ⟨ah1,A3,H⟩:=H;obtain rfl:=Option.some.inj H;have Nh:=bc BK1 0;have Nl:=bf BK1 0;go_enter Try.func110,Try.ntmps110;go_wp2_with (first | (go_at_fn N7;refine eD (args':=Uv ++ #[.slice A0 l0.length c0] ++ Uw) (by simp) ?_;refine (Ux.out l0 _ _ _ A3.out _ (uH HB.out) (by exact uC HR0.out) (by exact HC0.out)).mono ?_;rintro e w5 ⟨rfl,hb⟩;replace BK1:=xB BK1 hb;replace HB:=xH HB hb;(try clear hb)));go_ret;exact ⟨eX,uH HB.out⟩
/-! ### fH: function 103 -/
def fH.f (l0 : List Int) (fC : Int) : Option (Bool):=if 0 ≤ fC then (if fC < (l0.length : Int) then (some ((rd l0 fC) != 0)) else (none)) else (none)
theorem fH.calls (A0 : Option Addr) (c0 : Nat) (l0 : List Int) (gc1 : Nat) (fC : Int) (r : Bool) (w : World) (hr0 : Kd.C (Kd.int .i64) w A0 l0.length l0) (hc0 : l0.length ≤ c0) (hb1 : w.heap[gc1]? = some (.cells #[.int .i64 fC] 3 (0,0))) (H : fH.f l0 fC = some r) :
  Calls Try.prog 103 #[.slice A0 l0.length c0,.pointer (some ⟨gc1,0,none⟩)] w fun e w'=>e = .returned (.bool r)∧aQ w w':=by
 have HR0:=zA hr0;have HC0:=zA hc0;clear hr0 hc0;have BK1:=zA hb1;clear hb1;unfold fH.f at H;replace H:=gD H;obtain ⟨rZ,H⟩:=H;replace H:=gD H;obtain ⟨pJ,H⟩:=H;obtain rfl:=Option.some.inj H;have adO:=bc BK1 0;have adP:=bf BK1 0;have aes : 0 ≤ (fC : Int):=oD;have aet : fC < (l0.length : Int):=oD;obtain ⟨awX,arD,aoj⟩:=Kd.gK HR0.out fC aes aet;cases arD;replace aes:=eq_true aes;replace aet:=eq_true aet;go_enter Try.func103,Try.ntmps103;go_wp2;go_ret;exact ⟨by first | rfl | (simp;done) | (simp [*];done),by repeat (first | exact aQ.refl _ | apply aQ.step)⟩
/-! ### dO: function 60 -/
def dO.f (a0 : Int) (a1 : Int) : Option (Bool):=if a1 ≥ 0 then (some (decide (a1 < a0))) else (some false)
theorem dO.calls (a0 : Int) (a1 : Int) (r : Bool) (w : World) (H : dO.f a0 a1 = some r) :
  Calls Try.prog 60 #[.int .i64 a0,.int .i64 a1] w fun e w'=>e = .returned (.bool r)∧aQ w w':=by
 unfold dO.f at H;replace H:=gI H;obtain ⟨c3,H⟩|⟨c3,H⟩:=H
 ·have rZ : decide (0 ≤ a1) = false:=decide_eq_false c3;clear c3;obtain rfl:=Option.some.inj H;go_enter Try.func60,Try.ntmps60;go_wp2;go_ret;exact ⟨by first | rfl | (simp;done) | (simp [*];done),by repeat (first | exact aQ.refl _ | apply aQ.step)⟩
 have rZ : decide (0 ≤ a1) = true:=decide_eq_true c3;clear c3;obtain rfl:=Option.some.inj H;go_enter Try.func60,Try.ntmps60;go_wp2;go_ret;exact ⟨by first | rfl | (simp;done) | (simp [*];done),by repeat (first | exact aQ.refl _ | apply aQ.step)⟩
/-! ### gJ: function 67 -/
def gJ.f (a0 : Int) (a1 : Int) : Option (Int):=if a0 = 0 then (none) else (some (Int.tmod (wrap64 ((Int.tmod a1 a0) + a0)) a0))
theorem gJ.calls (a0 : Int) (a1 : Int) (r : Int) (w : World) (H : gJ.f a0 a1 = some r) :
  Calls Try.prog 67 #[.int .i64 a0,.int .i64 a1] w fun e w'=>e = .returned (.int .i64 r)∧aQ w w':=by
 unfold gJ.f at H;replace H:=gI H;obtain ⟨c3,H⟩|⟨c3,H⟩:=H
 ·have rZ : (a0 == 0) = false:=beq_eq_false_iff_ne.mpr c3;have Ii : (a0 != 0) = true:=bne_iff_ne.mpr c3;obtain rfl:=Option.some.inj H;go_enter Try.func67,Try.ntmps67;go_wp2;go_ret;exact ⟨by first | rfl | (simp;done) | (simp [*];done),by repeat (first | exact aQ.refl _ | apply aQ.step)⟩
 exact absurd H (by simp)
/-! ### iE: function 96 -/
def iE.f (a0 : Int) (a1 : Int) (a2 : Int) : Option (Int):=(gJ.f a0 (wrap64 (a1 * a2))).bind fun aeu=>(some aeu)
theorem iE.calls (a0 : Int) (a1 : Int) (a2 : Int) (r : Int) (w : World) (H : iE.f a0 a1 a2 = some r) :
  Calls Try.prog 96 #[.int .i64 a0,.int .i64 a1,.int .i64 a2] w fun e w'=>e = .returned (.int .i64 r)∧aQ w w':=by
 unfold iE.f at H;replace H:=bO H;obtain ⟨aeu,A4,H⟩:=H;obtain rfl:=Option.some.inj H;go_enter Try.func96,Try.ntmps96;go_wp2_with (first | ((with_reducible refine ag (f:=67) rfl ?_);refine gL (some 11) Try.func67 #[.int .i64 a0,.int .i64 (wrap64 (a1 * a2))] ?_;(with_reducible refine (gJ.calls a0 (wrap64 (a1 * a2)) aeu _ A4.out).mono ?_);rintro e w' ⟨rfl,⟨nd,rfl⟩⟩;refine ⟨_,rfl,?_⟩));go_ret;exact ⟨by first | rfl | (simp;done) | (simp [*];done),by repeat (first | exact aQ.refl _ | apply aQ.step)⟩
/-! ### eu: function 92 -/
def eu.l0 : Nat → Int → Int → Int → Int → Option (Int)
 | 0,_,_,_,_=>none
 | k + 1,x0,x1,x2,x7=>if x2 > 0 then (if (Int.tmod x2 2) = 1 then ((iE.f x0 x7 x1).bind fun Yy=>((iE.f x0 x1 x1).bind fun Yz=>(eu.l0 k x0 Yz (wrap64 (Int.tdiv x2 2)) Yy))) else ((iE.f x0 x1 x1).bind fun YA=>(eu.l0 k x0 YA (wrap64 (Int.tdiv x2 2)) x7))) else (some x7)
def eu.f (k : Nat) (a0 : Int) (a1 : Int) (a2 : Int) : Option (Int):=(gJ.f a0 1).bind fun YB=>(eu.l0 k a0 a1 a2 YB)
theorem eu.calls (k : Nat) (a0 : Int) (a1 : Int) (a2 : Int) (r : Int) (w : World) (H : eu.f k a0 a1 a2 = some r) :
  Calls Try.prog 92 #[.int .i64 a0,.int .i64 a1,.int .i64 a2] w fun e w'=>e = .returned (.int .i64 r)∧aQ w w':=by
 unfold eu.f at H;replace H:=bO H;obtain ⟨YB,A4,H⟩:=H;have H':=zA H;clear H;go_enter Try.func92,Try.ntmps92;go_wp2_with (first | ((with_reducible refine ag (f:=67) rfl ?_);refine gL (some 9) Try.func67 #[.int .i64 a0,.int .i64 1] ?_;(with_reducible refine (gJ.calls a0 1 YB _ A4.out).mono ?_);rintro e w' ⟨rfl,⟨nd,rfl⟩⟩;refine ⟨_,rfl,?_⟩));go_loopg [1,2,7] k (fun kq v1 v2 v7 w'=>∃ (DK : Int) (uA : Int) (mO : Int),v1 = .int .i64 DK∧v2 = .int .i64 uA∧v7 = .int .i64 mO∧aa (eu.l0 kq a0 DK uA mO = some r)∧aa (kq ≤ k)∧aQ w w');(case atStart=>exact ⟨(a1),(a2),(YB),eS,eS,eS,H',⟨Nat.le_refl _⟩,by repeat (first | exact aQ.refl _ | apply aQ.step)⟩)
 case round =>
  clear H';(try clear p2);obtain ⟨DK,uA,mO,rfl,rfl,rfl,HA,HK1,⟨m1,rfl⟩⟩:=hrel
  cases gk with
  | zero=>exact absurd HA.out (by simp [eu.l0])
  | succ k1 =>
   have H:=HA.out;clear HA;simp only [eu.l0] at H;replace H:=gI H;obtain ⟨c5,H⟩|⟨c5,H⟩:=H
   ·have mF : decide (0 < uA) = false:=decide_eq_false c5;clear c5;obtain rfl:=Option.some.inj H;go_wp2;go_ret;exact ⟨by first | rfl | (simp;done) | (simp [*];done),by repeat (first | exact aQ.refl _ | apply aQ.step)⟩
   have mF : decide (0 < uA) = true:=decide_eq_true c5;clear c5;replace H:=gE H;obtain ⟨c6,qo,xE,H⟩|⟨c6,qo,xE,H⟩:=H
   ·replace H:=bO H;obtain ⟨YA,A9,H⟩:=H;have H':=zA H;clear H;go_wp2_with (first | ((with_reducible refine ag (f:=96) rfl ?_);refine gL (some 24) Try.func96 #[.int .i64 a0,.int .i64 DK,.int .i64 DK] ?_;(with_reducible refine (iE.calls a0 DK DK YA _ A9.out).mono ?_);rintro e w' ⟨rfl,⟨nd,rfl⟩⟩;refine ⟨_,rfl,?_⟩));go_roundg k1;(case measure=>have:=HK1.out;omega);(case rel=>exact ⟨(YA),(wrap64 (Int.tdiv uA 2)),(mO),eS,eS,eS,H',⟨by have:=HK1.out;omega⟩,by repeat (first | exact aQ.refl _ | apply aQ.step)⟩)
   clear c6;replace H:=bO H;obtain ⟨Yy,A7,H⟩:=H;replace H:=bO H;obtain ⟨Yz,A8,H⟩:=H;have H':=zA H;clear H;go_wp2_with (first | ((with_reducible refine ag (f:=96) rfl ?_);refine gL (some 20) Try.func96 #[.int .i64 a0,.int .i64 mO,.int .i64 DK] ?_;(with_reducible refine (iE.calls a0 mO DK Yy _ A7.out).mono ?_);rintro e w' ⟨rfl,⟨nd,rfl⟩⟩;refine ⟨_,rfl,?_⟩) | ((with_reducible refine ag (f:=96) rfl ?_);refine gL (some 24) Try.func96 #[.int .i64 a0,.int .i64 DK,.int .i64 DK] ?_;(with_reducible refine (iE.calls a0 DK DK Yz _ A8.out).mono ?_);rintro e w' ⟨rfl,⟨nd,rfl⟩⟩;refine ⟨_,rfl,?_⟩));go_roundg k1;(case measure=>have:=HK1.out;omega);(case rel=>exact ⟨(Yz),(wrap64 (Int.tdiv uA 2)),(Yy),eS,eS,eS,H',⟨by have:=HK1.out;omega⟩,by repeat (first | exact aQ.refl _ | apply aQ.step)⟩)
/-! ### jf: function 70 -/
def jf.f (k : Nat) (a0 : Int) (a1 : Int) : Option (Int):=(eu.f k a0 a1 (wrap64 (a0 - 2))).bind fun t138=>(some t138)
theorem jf.calls (k : Nat) (a0 : Int) (a1 : Int) (r : Int) (w : World) (H : jf.f k a0 a1 = some r) :
  Calls Try.prog 70 #[.int .i64 a0,.int .i64 a1] w fun e w'=>e = .returned (.int .i64 r)∧aQ w w':=by
 unfold jf.f at H;replace H:=bO H;obtain ⟨t138,A3,H⟩:=H;obtain rfl:=Option.some.inj H;go_enter Try.func70,Try.ntmps70;go_wp2_with (first | ((with_reducible refine ag (f:=92) rfl ?_);refine gL (some 9) Try.func92 #[.int .i64 a0,.int .i64 a1,.int .i64 (wrap64 (a0 - 2))] ?_;(with_reducible refine (eu.calls k a0 a1 (wrap64 (a0 - 2)) t138 _ A3.out).mono ?_);rintro e w' ⟨rfl,⟨nd,rfl⟩⟩;refine ⟨_,rfl,?_⟩));go_ret;exact ⟨by first | rfl | (simp;done) | (simp [*];done),by repeat (first | exact aQ.refl _ | apply aQ.step)⟩
/-! ### mP: function 72 -/
def mP.f (k : Nat) (a0 : Int) (a1 : Int) (a2 : Int) : Option (Int):=(jf.f k a0 a2).bind fun t139=>((iE.f a0 a1 t139).bind fun aev=>(some aev))
theorem mP.calls (k : Nat) (a0 : Int) (a1 : Int) (a2 : Int) (r : Int) (w : World) (H : mP.f k a0 a1 a2 = some r) :
  Calls Try.prog 72 #[.int .i64 a0,.int .i64 a1,.int .i64 a2] w fun e w'=>e = .returned (.int .i64 r)∧aQ w w':=by
 unfold mP.f at H;replace H:=bO H;obtain ⟨t139,A4,H⟩:=H;replace H:=bO H;obtain ⟨aev,A5,H⟩:=H;obtain rfl:=Option.some.inj H;go_enter Try.func72,Try.ntmps72;go_wp2_with (first | ((with_reducible refine ag (f:=70) rfl ?_);refine gL (some 11) Try.func70 #[.int .i64 a0,.int .i64 a2] ?_;(with_reducible refine (jf.calls k a0 a2 t139 _ A4.out).mono ?_);rintro e w' ⟨rfl,⟨nd,rfl⟩⟩;refine ⟨_,rfl,?_⟩) | ((with_reducible refine ag (f:=96) rfl ?_);refine gL (some 12) Try.func96 #[.int .i64 a0,.int .i64 a1,.int .i64 t139] ?_;(with_reducible refine (iE.calls a0 a1 t139 aev _ A5.out).mono ?_);rintro e w' ⟨rfl,⟨nd,rfl⟩⟩;refine ⟨_,rfl,?_⟩));go_ret;exact ⟨by first | rfl | (simp;done) | (simp [*];done),by repeat (first | exact aQ.refl _ | apply aQ.step)⟩
/-! ### iw: function 61 -/
def iw.l0 : Nat → List Int → Option (List Int)
 | 0,_=>none
 | k + 1,x0=>if (x0.length : Int) > 0 then (if 0 ≤ (wrap64 ((x0.length : Int) - 1)) then (if (wrap64 ((x0.length : Int) - 1)) < (x0.length : Int) then (if (rd x0 (wrap64 ((x0.length : Int) - 1))) = 0 then (if (wrap64 ((x0.length : Int) - 1)) ≤ (x0.length : Int) then (iw.l0 k (x0.take ((wrap64 ((x0.length : Int) - 1)) : Int).toNat)) else (none)) else (some x0)) else (none)) else (none)) else (some x0)
def iw.f (k : Nat) (l0 : List Int) : Option (List Int):=iw.l0 k l0
theorem iw.calls (k : Nat) (P0_ : Nat → Prop) (Bl : Value) (l0 : List Int) (r : List Int) (w0 w : World) (hB : Below w0.heap.size w0 w) (ho0 : Kd.R (Kd.int .i64) 2 w w0.heap.size P0_ Bl l0) (H : iw.f k l0 = some r) :
  Calls Try.prog 61 #[Bl] w fun e w'=>∃ v0_ : Value,e = .returned (v0_)∧Kd.R (Kd.int .i64) 2 w' w0.heap.size (fun k_=>(P0_ k_ ∨ w.heap.size ≤ k_)) v0_ r∧Below w0.heap.size w0 w'∧Kept w w' (fun k_=>P0_ k_):=by
 have HO0:=zA (show Kd.R (Kd.int .i64) 2 w w0.heap.size (fun k_=>(P0_ k_ ∨ w.heap.size ≤ k_)) Bl l0 from Kd.af ho0 (fun k_ hk=>(.inl hk)));have HK:=zA (Kept.refl w (fun k_=>P0_ k_));have HW0:=zA hB.size;have HB:=zA hB;clear hB;unfold iw.f at H;have H':=zA H;clear H;go_enter Try.func61,Try.ntmps61;go_wp2;go_loopg [0] k (fun kq v0 w'=>∃ (Bn : List Int),aa (iw.l0 kq Bn = some r)∧aa (kq ≤ k)∧aa (Kd.R (Kd.int .i64) 2 w' w0.heap.size (fun k_=>(P0_ k_ ∨ w.heap.size ≤ k_)) v0 Bn)∧aa (Kept w w' (fun k_=>P0_ k_))∧aa (Below w0.heap.size w0 w'));(case atStart=>exact ⟨(l0),H',⟨Nat.le_refl _⟩,⟨uR HO0.out⟩,⟨by repeat (first | (with_reducible first | exact HK.out | apply Kept.alloc | apply Kept.drewN | apply Kept.drew) | exact HK.out)⟩,⟨uH HB.out⟩⟩)
 case round =>
  clear H';obtain ⟨Bn,HA,HK1,Ik,HK,HB⟩:=hrel
  cases gk with
  | zero=>exact absurd HA.out (by simp [iw.l0])
  | succ k1 =>
   have H:=HA.out;clear HA;simp only [iw.l0] at H;replace H:=gI H;obtain ⟨c2,H⟩|⟨c2,H⟩:=H
   ·have ad2 : decide (0 < (Bn.length : Int)) = false:=decide_eq_false c2;have arE : decide (0 < Bn.length) = false:=decide_eq_false (by omega);clear c2;obtain rfl:=Option.some.inj H;obtain ⟨iV,iW,rfl⟩:=Kd.aW Ik.out;go_wp2;go_ret;exact ⟨_,eX,uR Ik.out,uH HB.out,by repeat (first | (with_reducible first | exact HK.out | apply Kept.alloc | apply Kept.drewN | apply Kept.drew) | exact HK.out)⟩
   have ad2 : decide (0 < (Bn.length : Int)) = true:=decide_eq_true c2;have arE : decide (0 < Bn.length) = true:=decide_eq_true (by omega);clear c2;obtain ⟨ji3,Ij⟩ : ∃ j_ : Int,(wrap64 ((Bn.length : Int) - 1)) = j_:=⟨_,rfl⟩;(first | rw [Ij] at H | simp only [Ij] at H);have ahB : (IntKind.i64.wrap ((Bn.length : Int) - 1)) = ji3:=(jZ _).trans Ij;replace H:=gD H;obtain ⟨pJ,H⟩:=H;replace H:=gD H;obtain ⟨mF,H⟩:=H;replace H:=gE H;obtain ⟨c6,qo,xE,H⟩|⟨c6,qo,xE,H⟩:=H
   ·obtain rfl:=Option.some.inj H;obtain ⟨aew,aex,rfl⟩:=Kd.aW Ik.out;have N8 : 0 ≤ ((ji3) : Int):=oD;have N9 : (ji3) < (Bn.length : Int):=oD;obtain ⟨abx,aey,YC⟩:=Kd.gK (Kd.aK Ik.out).2.2 (ji3) N8 N9;cases aey;replace N8:=eq_true N8;replace N9:=eq_true N9;go_wp2;go_ret;exact ⟨_,by first | rfl | (simp [gY,ic] <;> rfl) | (simp only [← Ij];first | rfl | (simp [gY,ic] <;> rfl)) | (simp [*,gY,ic] <;> rfl),uR Ik.out,uH HB.out,by repeat (first | (with_reducible first | exact HK.out | apply Kept.alloc | apply Kept.drewN | apply Kept.drew) | exact HK.out)⟩
   clear c6;replace H:=gN H;obtain ⟨c7,H⟩:=H;have Ih:=eq_true c7;have K5 : decide ((ji3) ≤ (Bn.length : Int)) = true:=decide_eq_true c7;clear c7;obtain ⟨ah2,Uy⟩:=eY (Bn.take ((ji3) : Int).toNat : List Int);(try rw [←Uy.out] at H);have H':=zA H;clear H;obtain ⟨Ao8,co8,rfl⟩:=Kd.aW Ik.out;have N8 : 0 ≤ ((ji3) : Int):=oD;have N9 : (ji3) < (Bn.length : Int):=oD;obtain ⟨abx,aey,YC⟩:=Kd.gK (Kd.aK Ik.out).2.2 (ji3) N8 N9;cases aey;replace N8:=eq_true N8;replace N9:=eq_true N9;have q9 : ((ji3) : Int) ≤ ((Bn.length : Int) : Int):=oD;obtain ⟨i09,ah3,_,arF,_⟩:=info_parts mf;have ah4:=aez (P:=Try.prog) 24 2 .i64 Try.underlying24 ah3 (some abx) Bn.length co8 (ji3) (of_decide_eq_true (by first | (with_reducible assumption) | assumption)) q9 (Kd.aK Ik.out).2.1;have hr9:=Kd.Oa (m:=((ji3) : Int).toNat) Ik.out (by omega);have hy9 : ah2.length = ((ji3) : Int).toNat:=(by rw [Uy.out,List.length_take];omega);rw [← Uy.out] at hr9;rw [← hy9] at hr9 ah4;clear hy9 ah3 arF Ik;have ah5:=zA hr9;clear hr9;replace q9:=eq_true q9;go_wp2;go_roundg k1;(case measure=>have:=HK1.out;omega);(case rel=>exact ⟨(ah2),H',⟨by have:=HK1.out;omega⟩,⟨uR ah5.out⟩,⟨by repeat (first | (with_reducible first | exact HK.out | apply Kept.alloc | apply Kept.drewN | apply Kept.drew) | exact HK.out)⟩,⟨uH HB.out⟩⟩)
/-! ### aZ: function 39 -/
mutual
def aZ.j0 : Nat → Int → List Int → List Int → Bool → Option (List Int)
 | 0,_,_,_,_=>none
 | k + 1,x0,x1,x2,x19=>if x19 = true then (some ([] : List Int)) else (if 0 ≤ (wrap64 ((wrap64 ((x1.length : Int) + (x2.length : Int))) - 1)) then (if (wrap64 ((wrap64 ((x1.length : Int) + (x2.length : Int))) - 1) : Int).toNat ≤ 35184372088832 then (aZ.l0 k x0 x2 (List.replicate (wrap64 ((wrap64 ((x1.length : Int) + (x2.length : Int))) - 1) : Int).toNat 0) x1 (x1.length : Int) 0) else (none)) else (none))
def aZ.l0 : Nat → Int → List Int → List Int → List Int → Int → Int → Option (List Int)
 | 0,_,_,_,_,_,_=>none
 | k + 1,x0,x2,x7,x27,x28,x29=>if x29 < x28 then (if 0 ≤ x29 then (if x29 < (x27.length : Int) then (aZ.l1 k x0 x2 x7 x29 (rd x27 x29) x27 x28 x29 x2 (x2.length : Int) 0) else (none)) else (none)) else ((iw.f k x7).bind fun aeA=>(some aeA))
def aZ.l1 : Nat → Int → List Int → List Int → Int → Int → List Int → Int → Int → List Int → Int → Int → Option (List Int)
 | 0,_,_,_,_,_,_,_,_,_,_,_=>none
 | k + 1,x0,x2,x7,x8,x9,x27,x28,x29,x34,x35,x36=>if x36 < x35 then (if 0 ≤ x36 then (if x36 < (x34.length : Int) then (if 0 ≤ (wrap64 (x8 + x36)) then (if (wrap64 (x8 + x36)) < (x7.length : Int) then ((gJ.f x0 (wrap64 ((rd x7 (wrap64 (x8 + x36))) + (wrap64 (x9 * (rd x34 x36)))))).bind fun Rp=>(aZ.l1 k x0 x2 (x7.set ((wrap64 (x8 + x36)) : Int).toNat Rp) x8 x9 x27 x28 x29 x34 x35 (wrap64 (x36 + 1)))) else (none)) else (none)) else (none)) else (none)) else (aZ.l0 k x0 x2 x7 x27 x28 (wrap64 (x29 + 1)))
end
def aZ.f (k : Nat) (a0 : Int) (l1 : List Int) (l2 : List Int) : Option (List Int):=if (l1.length : Int) = 0 then (aZ.j0 k a0 l1 l2 true) else (aZ.j0 k a0 l1 l2 ((l2.length : Int) == 0))
theorem aZ.calls (k : Nat) (a0 : Int) (A1 : Option Addr) (c1 : Nat) (l1 : List Int) (A2 : Option Addr) (c2 : Nat) (l2 : List Int) (r : List Int) (w : World) (hr1 : Kd.C (Kd.int .i64) w A1 l1.length l1) (hc1 : l1.length ≤ c1) (hr2 : Kd.C (Kd.int .i64) w A2 l2.length l2) (hc2 : l2.length ≤ c2) (H : aZ.f k a0 l1 l2 = some r) :
  Calls Try.prog 39 #[.int .i64 a0,.slice A1 l1.length c1,.slice A2 l2.length c2] w fun e w'=>∃ v0_ : Value,e = .returned (v0_)∧Kd.R (Kd.int .i64) 2 w' w.heap.size (fun _=>True) v0_ r∧Below w.heap.size w w':=by
 have HR1:=zA hr1;have HC1:=zA hc1;clear hr1 hc1;have HR2:=zA hr2;have HC2:=zA hc2;clear hr2 hc2;have HB:=zA (Below.refl w.heap.size w);unfold aZ.f at H;have HC4:=zA H;clear H;go_enter Try.func39,Try.ntmps39;go_upto_region 1 with (fail);go_cut [19] (fun v19 wc=>∃ (kq : Nat) (Uz : Bool),v19 = .bool Uz∧aa (aZ.j0 kq a0 l1 l2 Uz = some r)∧aa (kq ≤ k)∧aa (Below w.heap.size w wc))
 case first =>
  have H:=HC4.out;clear HC4;replace H:=gE H;obtain ⟨c5,mF,wz,H⟩|⟨c5,mF,wz,H⟩:=H
  ·have NC : ¬ (l1 = []):=fun h_=>c5 (by rw [h_];rfl);(first | rw [mF] | (simp only [jZ,nJ];rw [mF]) | skip);have H':=zA H;clear H;go_wp2;go_meet;(case rel=>exact ⟨_,(((l2.length : Int) == 0)),eS,H',⟨by first | omega | exact Nat.le_refl _⟩,⟨uH HB.out⟩⟩)
  clear c5;(first | rw [mF] | (simp only [jZ,nJ];rw [mF]) | skip);have H':=zA H;clear H;go_wp2;go_meet;(case rel=>exact ⟨_,(true),eS,H',⟨by first | omega | exact Nat.le_refl _⟩,⟨uH HB.out⟩⟩)
 case rest =>
  clear HC4;(try clear c1);(try clear c2);(try clear p2);(try clear c3);(try clear c5);(try clear mF);(try clear wz);(try clear NC);obtain ⟨kq,Uz,rfl,HA,HJ3,HB⟩:=hcut
  cases kq with
  | zero=>exact absurd HA.out (by simp [aZ.j0])
  | succ kj3 =>
   have H:=HA.out;clear HA;simp only [aZ.j0] at H;replace H:=gB H;obtain ⟨rfl,H⟩|⟨rfl,H⟩:=H
   ·obtain rfl:=Option.some.inj H;go_wp2;go_ret;exact ⟨_,eX,by first | exact Kd.qM _ _ _ _ _ | exact Kd.ut _ _ _ _ _ | exact Kd.um _ _ _ _ _ | exact Kd.uu _ _ _ _ _ | exact Kd.uo _ _ _ _ _,uH HB.out⟩
   ·obtain ⟨ji7,Dy⟩ : ∃ j_ : Int,(wrap64 ((wrap64 ((l1.length : Int) + (l2.length : Int))) - 1)) = j_:=⟨_,rfl⟩;(first | rw [Dy] at H | simp only [Dy] at H);have abm : (IntKind.i64.wrap ((wrap64 ((l1.length : Int) + (l2.length : Int))) - 1)) = ji7:=(jZ _).trans Dy;replace H:=gN H;obtain ⟨c8,H⟩:=H;have yc:=eq_true c8;have K6 : decide (0 ≤ (ji7)) = true:=decide_eq_true c8;clear c8;replace H:=gN H;obtain ⟨c9,H⟩:=H;have Ay:=eq_true c9;have ER : decide ((ji7 : Int).toNat ≤ 35184372088832) = true:=decide_eq_true c9;clear c9;obtain ⟨arG,UA⟩:=eY (List.replicate (ji7 : Int).toNat 0 : List Int);(try rw [←UA.out] at H);have H':=zA H;clear H;go_wp2_with (first | ((with_reducible refine dz (N:=26) rfl ?_);(try (refine iC (by rfl) ?_;dsimp only));refine Kd.TR (Kd.int .i64) _ 2 rfl (N:=26) rfl 24 _ _ rfl ji7 rfl rfl Try.underlying24 (.int .i64 0) 8 mf rfl (by decide) (by omega) 0 (ok:=fun _=>True) (okp:=fun _=>True) rfl (fun _ hk=>hk) trivial (of_decide_eq_true (by first | (with_reducible assumption) | assumption)) (Nat.le_trans (Nat.mul_le_mul_right _ (of_decide_eq_true (by first | (with_reducible assumption) | assumption) : ji7.toNat ≤ 35184372088832)) (by omega)) (Below.refl _ _) (Nat.le_refl _) ?_;intro ah6 w10 yJ hb hg_ hnew_;clear hg_ hnew_;(first | rw [← UA.out] at yJ | (simp only [Int.reduceToNat] at yJ;rw [← UA.out] at yJ));have ah7:=zA (Kd.bv yJ (av (uH HB.out)));replace HB:=xH HB hb;clear hb yJ));go_loopg [29] kj3 (fun kq v29 w'=>∃ (Bh : List Int) (wN : Int),v29 = .int .i64 wN∧aa (aZ.l0 kq a0 l2 Bh l1 (l1.length : Int) wN = some r)∧aa (kq ≤ kj3)∧aa (Kd.R (Kd.int .i64) 2 w' w.heap.size (fun _=>True) ah6 Bh)∧aa (Below w.heap.size w w'));(case atStart=>exact ⟨(arG),(0),eS,H',⟨Nat.le_refl _⟩,⟨uR ah7.out⟩,⟨uH HB.out⟩⟩)
    case round =>
     clear H';(try clear c1);(try clear c2);(try clear p2);(try clear c3);(try clear c5);(try clear mF);(try clear wz);(try clear NC);(try clear c6);(try clear p6);(try clear c8);(try clear yc);(try clear K6);(try clear c9);(try clear Ay);(try clear ER);(try clear p2);obtain ⟨Bh,wN,rfl,HA,HK2,ik,HB⟩:=hrel
     cases gk with
     | zero=>exact absurd HA.out (by simp [aZ.l0])
     | succ k2 =>
      have H:=HA.out;clear HA;simp only [aZ.l0] at H;replace H:=gF H;obtain ⟨TG,H⟩|⟨TG,H⟩:=H
      ·replace H:=bO H;obtain ⟨aeA,A26,H⟩:=H;obtain rfl:=Option.some.inj H;obtain ⟨xy,xz,rfl⟩:=Kd.aW ik.out;go_wp2_with (first | ((with_reducible refine ag (f:=61) rfl ?_);refine gL (some 61) Try.func61 #[.slice xy Bh.length xz] ?_;(with_reducible refine (iw.calls k2 (fun k_=>some k_ = (.slice xy Bh.length xz : Value).ownBlock) (.slice xy Bh.length xz) Bh aeA w _ ?side1 ?side2 A26.out).mono ?_);(case side1=>exact uH HB.out);(case side2=>exact Kd.Bu rfl ik.out);rintro e w28 ⟨ayF,rfl,ho0,hb,hkp⟩;refine ⟨_,rfl,?_⟩;have ah8:=zA (Kd.af (ok':=fun k_=>True) ho0 (fun k_ hk_=>trivial));replace HB:=zA (hb);clear ik;(try clear hb);(try clear hkp);(try clear ho0)));go_ret;exact ⟨_,by first | rfl | (simp [gY,ic] <;> rfl) | (simp only [← Dy];first | rfl | (simp [gY,ic] <;> rfl)) | (simp [*,gY,ic] <;> rfl),uR ah8.out,uH HB.out⟩
      replace H:=gD H;obtain ⟨aba,H⟩:=H;replace H:=gD H;obtain ⟨Gq,H⟩:=H;have H':=zA H;clear H;have YD : 0 ≤ (wN : Int):=oD;have YE : wN < (l1.length : Int):=oD;obtain ⟨awY,arH,J3⟩:=Kd.gK HR1.out wN YD YE;cases arH;replace J3:=hc HB J3;replace YD:=eq_true YD;replace YE:=eq_true YE;go_wp2;go_loopg [36] k2 (fun kq v36 w'=>∃ (vQ : List Int) (yV : Int),v36 = .int .i64 yV∧aa (aZ.l1 kq a0 l2 vQ wN (rd l1 wN) l1 (l1.length : Int) wN l2 (l2.length : Int) yV = some r)∧aa (kq ≤ k2)∧aa (Kd.R (Kd.int .i64) 2 w' w.heap.size (fun _=>True) ah6 vQ)∧aa (Below w.heap.size w w'));(case atStart=>exact ⟨(Bh),(0),eS,H',⟨Nat.le_refl _⟩,⟨uR ik.out⟩,⟨uH HB.out⟩⟩)
      case round =>
       clear H';(try clear c1);(try clear c2);(try clear p2);(try clear c3);(try clear p4);(try clear q4);(try clear hx4);(try clear c5);(try clear mF);(try clear wz);(try clear NC);(try clear c6);(try clear p6);(try clear c8);(try clear yc);(try clear K6);(try clear c9);(try clear Ay);(try clear ER);(try clear c12);(try clear TG);(try clear c13);(try clear aba);(try clear c14);(try clear Gq);(try clear J3);(try clear p2);(try clear YD);(try clear p6);(try clear YE);obtain ⟨vQ,yV,rfl,HA,HK3,ik,HB⟩:=hrel
       cases gk with
       | zero=>exact absurd HA.out (by simp [aZ.l1])
       | succ k3 =>
        have H:=HA.out;clear HA;simp only [aZ.l1] at H;replace H:=gF H;obtain ⟨AC,H⟩|⟨AC,H⟩:=H
        ·have H':=zA H;clear H;go_wp2;go_roundg k3;(case measure=>have:=HJ3.out;have:=HK2.out;have:=HK3.out;omega);(case rel=>exact ⟨(vQ),(wrap64 (wN + 1)),eS,H',⟨by have:=HJ3.out;have:=HK2.out;have:=HK3.out;omega⟩,⟨uR ik.out⟩,⟨uH HB.out⟩⟩)
        replace H:=gD H;obtain ⟨UB,H⟩:=H;replace H:=gD H;obtain ⟨abg,H⟩:=H;obtain ⟨DL,PR⟩ : ∃ j_ : Int,(wrap64 (wN + yV)) = j_:=⟨_,rfl⟩;(first | rw [PR] at H | simp only [PR] at H);have arI : (IntKind.i64.wrap (wN + yV)) = DL:=(jZ _).trans PR;replace H:=gD H;obtain ⟨BN,H⟩:=H;replace H:=gD H;obtain ⟨abj,H⟩:=H;replace H:=bO H;obtain ⟨Rp,A21,H⟩:=H;obtain ⟨ah9,aby⟩:=eY (vQ.set ((DL) : Int).toNat Rp : List Int);(try rw [←aby.out] at H);have H':=zA H;clear H;have aeB : 0 ≤ (yV : Int):=oD;have aeC : yV < (l2.length : Int):=oD;obtain ⟨awZ,arJ,PS⟩:=Kd.gK HR2.out yV aeB aeC;cases arJ;replace PS:=hc HB PS;replace aeB:=eq_true aeB;replace aeC:=eq_true aeC;obtain ⟨fI,fE,rfl⟩:=Kd.aW ik.out;have aeD : 0 ≤ ((DL) : Int):=oD;have aeE : (DL) < (vQ.length : Int):=oD;obtain ⟨aia,arK,YF⟩:=Kd.gK (Kd.aK ik.out).2.2 (DL) aeD aeE;cases arK;replace aeD:=eq_true aeD;replace aeE:=eq_true aeE;go_wp2_with (first | ((with_reducible refine ag (f:=67) rfl ?_);refine yK (some 56) rfl rfl Try.func67 (by kernel_rfl) rfl #[.int .i64 a0,.int .i64 (wrap64 ((rd vQ (DL)) + (wrap64 ((rd l1 wN) * (rd l2 yV)))))] rfl (by (try simp only [la,lb,lc]);first | done | (simp only [PR];rfl) | rfl | (simp only [ld,le];rfl)) ?_;(with_reducible refine (gJ.calls a0 (wrap64 ((rd vQ (DL)) + (wrap64 ((rd l1 wN) * (rd l2 yV))))) Rp _ A21.out).mono ?_);rintro e w' ⟨rfl,⟨nd,rfl⟩⟩;refine ⟨_,rfl,?_⟩;(try (rw [lL wr];generalize hq_ : World.drewN wr _ = wr;have n0_ : aa (Kd.R (Kd.int .i64) 2 wr w.heap.size (fun _=>True) (.slice (some aia) vQ.length fE) vQ):=⟨by rw [← hq_];exact (uR ik.out)⟩;have n1_ : aa (Below w.heap.size w wr):=⟨by rw [← hq_];exact (uH HB.out)⟩;clear ik HB hq_;have ik:=n0_;have HB:=n1_;clear n0_ n1_));have p22 : 0 ≤ ((DL) : Int):=of_decide_eq_true (by first | (with_reducible assumption) | assumption);have q22 : ((DL) : Int) < ((vQ.length : Int) : Int):=of_decide_eq_true (by first | (with_reducible assumption) | assumption);obtain ⟨aeF,wB,UC,aib,arL,ayG,aic⟩:=Kd.Dx ik.out (by omega);(first | cases UC | (injection UC with ea_ en_ ec_;(first | subst ea_ | (injection ea_ with ea_;subst ea_));subst ec_;clear en_));have aid:=zA aib;have:=geI aid;have ayH:=zA aic;clear aib arL aic;(first | simp only [add_plain] at YF | skip);obtain ⟨arM,arN⟩:=Kd.BP 0 ik.out ((DL) : Int) p22 q22;replace p22:=eq_true p22;replace q22:=eq_true q22;obtain ⟨aw0,aw1⟩:=Kd.BP 0 ik.out ((DL) : Int) (of_decide_eq_true (by first | (with_reducible assumption) | assumption)) (of_decide_eq_true (by first | (with_reducible assumption) | assumption));have aeG:=Kd.aeH ik.out ((DL) : Int) Rp) | ((with_reducible refine Bo (t:=2) (p:=57) rfl ?_);refine yX (t:=2) (p:=57) (v:=?arO) (w1:=(wr.setCell ⟨aeF,((DL) : Int).toNat,none⟩ (.int .i64 Rp))) ?hg ?ho ?hn ?hr ?_;(case ho=>rfl);(case hg=>rfl);(case hn=>rfl);(case hr=>first | (go_simp;done) | (go_simp;rfl));intro w25 hw;have hg : wr.grownBy w25 (some aeF):=(by rw [hw];exact aeG.2);have hp_ : Kd.R (Kd.int .i64) 2 w25 w.heap.size (fun _=>True) (.slice (some ⟨aeF,0,none⟩) vQ.length fE) ah9:=(by rw [hw,aby.out];exact aeG.1);clear aeG;replace ik:=zA (hp_);replace HB:=zA ((by rw [hw];exact mG (HB.out) aid.out : Below w.heap.size w w25));clear hg hw hp_));go_roundg k3;(case measure=>have:=HJ3.out;have:=HK2.out;have:=HK3.out;omega);(case rel=>exact ⟨(ah9),(wrap64 (yV + 1)),eS,H',⟨by have:=HJ3.out;have:=HK2.out;have:=HK3.out;omega⟩,⟨uR ik.out⟩,⟨uH HB.out⟩⟩)
/-! ### jP: function 69 -/
def jP.f (a0 : Int) (a1 : Int) (a2 : Int) : Option (Bool):=if a1 ≤ a0 then (some (decide (a0 ≤ a2))) else (some false)
theorem jP.calls (a0 : Int) (a1 : Int) (a2 : Int) (r : Bool) (w : World) (H : jP.f a0 a1 a2 = some r) :
  Calls Try.prog 69 #[.int .i64 a0,.int .i64 a1,.int .i64 a2] w fun e w'=>e = .returned (.bool r)∧aQ w w':=by
 unfold jP.f at H;replace H:=gF H;obtain ⟨pJ,H⟩|⟨pJ,H⟩:=H
 ·obtain rfl:=Option.some.inj H;go_enter Try.func69,Try.ntmps69;go_wp2;go_ret;exact ⟨by first | rfl | (simp;done) | (simp [*];done),by repeat (first | exact aQ.refl _ | apply aQ.step)⟩
 obtain rfl:=Option.some.inj H;go_enter Try.func69,Try.ntmps69;go_wp2;go_ret;exact ⟨by first | rfl | (simp;done) | (simp [*];done),by repeat (first | exact aQ.refl _ | apply aQ.step)⟩
/-! ### eB: function 68 -/
def eB.l0 : Nat → Int → Int → Option (Bool)
 | 0,_,_=>none
 | k + 1,x0,x3=>if (wrap64 (x3 * x3)) ≤ x0 then (if x3 = 0 then (none) else (if (Int.tmod x0 x3) = 0 then (some false) else (eB.l0 k x0 (wrap64 (x3 + 1))))) else (some true)
def eB.f (k : Nat) (a0 : Int) : Option (Bool):=(jP.f a0 2 10007).bind fun aie=>(if aie = true then (eB.l0 k a0 2) else (some false))
theorem eB.calls (k : Nat) (a0 : Int) (r : Bool) (w : World) (H : eB.f k a0 = some r) :
  Calls Try.prog 68 #[.int .i64 a0] w fun e w'=>e = .returned (.bool r)∧aQ w w':=by
 unfold eB.f at H;replace H:=bO H;obtain ⟨aie,A2,H⟩:=H;replace H:=gB H;obtain ⟨rfl,H⟩|⟨rfl,H⟩:=H
 ·have H':=zA H;clear H;go_enter Try.func68,Try.ntmps68;go_wp2_with (first | ((with_reducible refine ag (f:=69) rfl ?_);refine gL (some 5) Try.func69 #[.int .i64 a0,.int .i64 2,.int .i64 10007] ?_;(with_reducible refine (jP.calls a0 2 10007 true _ A2.out).mono ?_);rintro e w' ⟨rfl,⟨nd,rfl⟩⟩;refine ⟨_,rfl,?_⟩));go_loopg [3] k (fun kq v3 w'=>∃ (nH : Int),v3 = .int .i64 nH∧aa (eB.l0 kq a0 nH = some r)∧aa (kq ≤ k)∧aQ w w');(case atStart=>exact ⟨(2),eS,H',⟨Nat.le_refl _⟩,by repeat (first | exact aQ.refl _ | apply aQ.step)⟩)
  case round =>
   clear H';(try clear p2);(try clear c3);obtain ⟨nH,rfl,HA,HK1,⟨m1,rfl⟩⟩:=hrel
   cases gk with
   | zero=>exact absurd HA.out (by simp [eB.l0])
   | succ k1 =>
    have H:=HA.out;clear HA;simp only [eB.l0] at H;replace H:=gF H;obtain ⟨pJ,H⟩|⟨pJ,H⟩:=H
    ·obtain rfl:=Option.some.inj H;go_wp2;go_ret;exact ⟨by first | rfl | (simp;done) | (simp [*];done),by repeat (first | exact aQ.refl _ | apply aQ.step)⟩
    replace H:=gI H;obtain ⟨c5,H⟩|⟨c5,H⟩:=H
    ·have mF : (nH == 0) = false:=beq_eq_false_iff_ne.mpr c5;have wz : (nH != 0) = true:=bne_iff_ne.mpr c5;replace H:=gE H;obtain ⟨c6,qo,xE,H⟩|⟨c6,qo,xE,H⟩:=H
     ·have H':=zA H;clear H;go_wp2;go_roundg k1;(case measure=>have:=HK1.out;omega);(case rel=>exact ⟨(wrap64 (nH + 1)),eS,H',⟨by have:=HK1.out;omega⟩,by repeat (first | exact aQ.refl _ | apply aQ.step)⟩)
     clear c6;obtain rfl:=Option.some.inj H;go_wp2;go_ret;exact ⟨by first | rfl | (simp;done) | (simp [*];done),by repeat (first | exact aQ.refl _ | apply aQ.step)⟩
    exact absurd H (by simp)
 ·obtain rfl:=Option.some.inj H;go_enter Try.func68,Try.ntmps68;go_wp2_with (first | ((with_reducible refine ag (f:=69) rfl ?_);refine gL (some 5) Try.func69 #[.int .i64 a0,.int .i64 2,.int .i64 10007] ?_;(with_reducible refine (jP.calls a0 2 10007 false _ A2.out).mono ?_);rintro e w' ⟨rfl,⟨nd,rfl⟩⟩;refine ⟨_,rfl,?_⟩));go_ret;exact ⟨by first | rfl | (simp;done) | (simp [*];done),by repeat (first | exact aQ.refl _ | apply aQ.step)⟩
/-! ### lX: function 27 -/
def lX.f (k : Nat) (a0 : Int) (a1 : Int) : Option (Int × Int):=(eB.f k a0).bind fun aif=>(if aif = true then ((jP.f a1 1 (wrap64 (a0 - 1))).bind fun aig=>(if aig = true then ((jf.f k a0 a1).bind fun aeI=>(some (aeI,0))) else (some (0,2)))) else (some (0,2)))
theorem lX.calls (k : Nat) (a0 : Int) (a1 : Int) (r1 : Int) (r2 : Int) (w : World) (H : lX.f k a0 a1 = some (r1,r2)) :
  Calls Try.prog 27 #[.int .i64 a0,.int .i64 a1] w fun e w'=>e = .returned (.tuple #[.int .i64 r1,.int .i64 r2])∧aQ w w':=by
 unfold lX.f at H;replace H:=bO H;obtain ⟨aif,A3,H⟩:=H;replace H:=gB H;obtain ⟨rfl,H⟩|⟨rfl,H⟩:=H
 ·replace H:=bO H;obtain ⟨aig,A5,H⟩:=H;replace H:=gB H;obtain ⟨rfl,H⟩|⟨rfl,H⟩:=H
  ·replace H:=bO H;obtain ⟨aeI,A7,H⟩:=H;simp only [Option.some.injEq,Prod.mk.injEq] at H;obtain ⟨rfl,rfl⟩:=H;go_enter Try.func27,Try.ntmps27;go_wp2_with (first | ((with_reducible refine ag (f:=68) rfl ?_);refine gL (some 7) Try.func68 #[.int .i64 a0] ?_;(with_reducible refine (eB.calls k a0 true _ A3.out).mono ?_);rintro e w' ⟨rfl,⟨nd,rfl⟩⟩;refine ⟨_,rfl,?_⟩) | (go_at_call 69;(with_reducible refine (jP.calls a1 1 (wrap64 (a0 - 1)) true _ A5.out).mono ?_);rintro e w' ⟨rfl,⟨nd,rfl⟩⟩) | ((with_reducible refine ag (f:=70) rfl ?_);refine gL (some 18) Try.func70 #[.int .i64 a0,.int .i64 a1] ?_;(with_reducible refine (jf.calls k a0 a1 aeI _ A7.out).mono ?_);rintro e w' ⟨rfl,⟨nd,rfl⟩⟩;refine ⟨_,rfl,?_⟩));go_ret2;exact ⟨by first | rfl | (simp;done) | (simp [*];done),by repeat (first | exact aQ.refl _ | apply aQ.step)⟩
  ·simp only [Option.some.injEq,Prod.mk.injEq] at H;obtain ⟨rfl,rfl⟩:=H;go_enter Try.func27,Try.ntmps27;go_wp2_with (first | ((with_reducible refine ag (f:=68) rfl ?_);refine gL (some 7) Try.func68 #[.int .i64 a0] ?_;(with_reducible refine (eB.calls k a0 true _ A3.out).mono ?_);rintro e w' ⟨rfl,⟨nd,rfl⟩⟩;refine ⟨_,rfl,?_⟩) | (go_at_call 69;(with_reducible refine (jP.calls a1 1 (wrap64 (a0 - 1)) false _ A5.out).mono ?_);rintro e w' ⟨rfl,⟨nd,rfl⟩⟩));go_ret2;exact ⟨by first | rfl | (simp;done) | (simp [*];done),by repeat (first | exact aQ.refl _ | apply aQ.step)⟩
 ·simp only [Option.some.injEq,Prod.mk.injEq] at H;obtain ⟨rfl,rfl⟩:=H;go_enter Try.func27,Try.ntmps27;go_wp2_with (first | ((with_reducible refine ag (f:=68) rfl ?_);refine gL (some 7) Try.func68 #[.int .i64 a0] ?_;(with_reducible refine (eB.calls k a0 false _ A3.out).mono ?_);rintro e w' ⟨rfl,⟨nd,rfl⟩⟩;refine ⟨_,rfl,?_⟩));go_ret2;exact ⟨by first | rfl | (simp;done) | (simp [*];done),by repeat (first | exact aQ.refl _ | apply aQ.step)⟩
/-! ### iy: function 9 -/
def iy.l0 : Nat → List Int → List Int → Int → Option (Bool)
 | 0,_,_,_=>none
 | k + 1,x0,x1,x5=>if x5 < (x0.length : Int) then (if 0 ≤ x5 then (if x5 < (x1.length : Int) then (if (rd x0 x5) = (rd x1 x5) then (iy.l0 k x0 x1 (wrap64 (x5 + 1))) else (some false)) else (none)) else (none)) else (some true)
def iy.f (k : Nat) (l0 : List Int) (l1 : List Int) : Option (Bool):=if (l0.length : Int) = (l1.length : Int) then (iy.l0 k l0 l1 0) else (some false)
theorem iy.calls (k : Nat) (A0 : Option Addr) (c0 : Nat) (l0 : List Int) (A1 : Option Addr) (c1 : Nat) (l1 : List Int) (r : Bool) (w : World) (hr0 : Kd.C (Kd.int .i64) w A0 l0.length l0) (hc0 : l0.length ≤ c0) (hr1 : Kd.C (Kd.int .i64) w A1 l1.length l1) (hc1 : l1.length ≤ c1) (H : iy.f k l0 l1 = some r) :
  Calls Try.prog 9 #[.slice A0 l0.length c0,.slice A1 l1.length c1] w fun e w'=>e = .returned (.bool r)∧aQ w w':=by
 have HR0:=zA hr0;have HC0:=zA hc0;clear hr0 hc0;have HR1:=zA hr1;have HC1:=zA hc1;clear hr1 hc1;unfold iy.f at H;replace H:=gE H;obtain ⟨c3,rZ,Ii,H⟩|⟨c3,rZ,Ii,H⟩:=H
 ·(have aih : (l0.length == l1.length) = false:=by first | simpa using c3 | (simp at c3 ⊢;omega));obtain rfl:=Option.some.inj H;go_enter Try.func9,Try.ntmps9;go_wp2;(repeat (go_quiet (fail);try go_wp2));go_ret;exact ⟨by first | rfl | (simp;done) | (simp [*];done),by repeat (first | exact aQ.refl _ | apply aQ.step)⟩
 (have aih : (l0.length == l1.length) = true:=by first | simpa using c3 | (simp at c3 ⊢;omega));clear c3;have H':=zA H;clear H;go_enter Try.func9,Try.ntmps9;go_wp2;(repeat (go_quiet (fail);try go_wp2));go_loopg [5] k (fun kq v5 w'=>∃ (jg : Int),v5 = .int .i64 jg∧aa (iy.l0 kq l0 l1 jg = some r)∧aa (kq ≤ k)∧aQ w w');(case atStart=>exact ⟨(0),eS,H',⟨Nat.le_refl _⟩,by repeat (first | exact aQ.refl _ | apply aQ.step)⟩)
 case round =>
  clear H';(try clear c1);(try clear p2);(try clear c3);(try clear rZ);(try clear Ii);(try clear aih);obtain ⟨jg,rfl,HA,HK1,⟨m1,rfl⟩⟩:=hrel
  cases gk with
  | zero=>exact absurd HA.out (by simp [iy.l0])
  | succ k1 =>
   have H:=HA.out;clear HA;simp only [iy.l0] at H;replace H:=gF H;obtain ⟨pJ,H⟩|⟨pJ,H⟩:=H
   ·obtain rfl:=Option.some.inj H;go_wp2;(repeat (go_quiet (fail);try go_wp2));go_ret;exact ⟨by first | rfl | (simp;done) | (simp [*];done),by repeat (first | exact aQ.refl _ | apply aQ.step)⟩
   replace H:=gD H;obtain ⟨mF,H⟩:=H;replace H:=gD H;obtain ⟨qo,H⟩:=H;replace H:=gE H;obtain ⟨c7,Ih,K5,H⟩|⟨c7,Ih,K5,H⟩:=H
   ·obtain rfl:=Option.some.inj H;have Ob : 0 ≤ (jg : Int):=oD;have Oc : jg < (l0.length : Int):=oD;obtain ⟨aii,aeJ,YG⟩:=Kd.gK HR0.out jg Ob Oc;cases aeJ;replace Ob:=eq_true Ob;replace Oc:=eq_true Oc;have Od : 0 ≤ (jg : Int):=oD;have Oe : jg < (l1.length : Int):=oD;obtain ⟨aij,aeK,YH⟩:=Kd.gK HR1.out jg Od Oe;cases aeK;replace Od:=eq_true Od;replace Oe:=eq_true Oe;go_wp2;(repeat (go_quiet (fail);try go_wp2));go_ret;exact ⟨by first | rfl | (simp;done) | (simp [*];done),by repeat (first | exact aQ.refl _ | apply aQ.step)⟩
   clear c7;have H':=zA H;clear H;have Ob : 0 ≤ (jg : Int):=oD;have Oc : jg < (l0.length : Int):=oD;obtain ⟨aii,aeJ,YG⟩:=Kd.gK HR0.out jg Ob Oc;cases aeJ;replace Ob:=eq_true Ob;replace Oc:=eq_true Oc;have Od : 0 ≤ (jg : Int):=oD;have Oe : jg < (l1.length : Int):=oD;obtain ⟨aij,aeK,YH⟩:=Kd.gK HR1.out jg Od Oe;cases aeK;replace Od:=eq_true Od;replace Oe:=eq_true Oe;go_wp2;(repeat (go_quiet (fail);try go_wp2));go_roundg k1;(case measure=>have:=HK1.out;omega);(case rel=>exact ⟨(wrap64 (jg + 1)),eS,H',⟨by have:=HK1.out;omega⟩,by repeat (first | exact aQ.refl _ | apply aQ.step)⟩)
/-! ### dG: function 111 -/
def dG.l0 : Nat → List Int → (Int → Option Bool) → Int → Int → Option (Int)
 | 0,_,_,_,_=>none
 | k + 1,x0,x1,x7,x8=>if x8 < x7 then (if 0 ≤ x8 then (if x8 < (x0.length : Int) then ((x1 (rd x0 x8)).bind fun aik=>(if aik = true then (some x8) else (dG.l0 k x0 x1 x7 (wrap64 (x8 + 1))))) else (none)) else (none)) else (some (-1))
def dG.f (k : Nat) (l0 : List Int) (a1 : (Int → Option Bool)) : Option (Int):=dG.l0 k l0 a1 (l0.length : Int) 0
theorem dG.calls (k : Nat) (A0 : Option Addr) (c0 : Nat) (l0 : List Int) (F1 : Value) (a1 : (Int → Option Bool)) (r : Int) (w : World) (hr0 : Kd.C (Kd.int .i64) w A0 l0.length l0) (hc0 : l0.length ≤ c0) (hF1 : FnI Try.prog w F1 a1) (H : dG.f k l0 a1 = some r) :
  Calls Try.prog 111 #[.slice A0 l0.length c0,F1] w fun e w'=>e = .returned (.int .i64 r)∧Below w.heap.size w w':=by
 have HR0:=zA hr0;have HC0:=zA hc0;clear hr0 hc0;obtain ⟨G1,fi1,ca1,rfl,rR,hF1⟩:=hF1;have rR : ∀ (args_ : Array Value) (w_ : World),(callFunc G1 args_).run Try.prog w_ = .ok (.enter G1 args_) w_:=rR;have HF1:=zA hF1;clear hF1;have HB:=zA (Below.refl w.heap.size w);unfold dG.f at H;have H':=zA H;clear H;go_enter Try.func111,Try.ntmps111;go_wp2;go_loopg [8] k (fun kq v8 w'=>∃ (eO : Int),v8 = .int .i64 eO∧aa (dG.l0 kq l0 a1 (l0.length : Int) eO = some r)∧aa (kq ≤ k)∧aa (Below w.heap.size w w'));(case atStart=>exact ⟨(0),eS,H',⟨Nat.le_refl _⟩,⟨uH HB.out⟩⟩)
 case round =>
  clear H';(try clear c1);(try clear p2);obtain ⟨eO,rfl,HA,HK1,HB⟩:=hrel
  cases gk with
  | zero=>exact absurd HA.out (by simp [dG.l0])
  | succ k1 =>
   have H:=HA.out;clear HA;simp only [dG.l0] at H;replace H:=gF H;obtain ⟨rZ,H⟩|⟨rZ,H⟩:=H
   ·obtain rfl:=Option.some.inj H;go_wp2;go_ret;exact ⟨eX,uH HB.out⟩
   replace H:=gD H;obtain ⟨pJ,H⟩:=H;replace H:=gD H;obtain ⟨mF,H⟩:=H;replace H:=bO H;obtain ⟨aik,A6,H⟩:=H;replace H:=gB H;obtain ⟨rfl,H⟩|⟨rfl,H⟩:=H
   ·obtain rfl:=Option.some.inj H;have Og : 0 ≤ (eO : Int):=oD;have Oh : eO < (l0.length : Int):=oD;obtain ⟨ail,aeL,Cf⟩:=Kd.gK HR0.out eO Og Oh;cases aeL;replace Cf:=hc HB Cf;replace Og:=eq_true Og;replace Oh:=eq_true Oh;go_wp2_with (first | (go_at_fn G1;refine eD (args':=fi1 ++ #[.int .i64 (rd l0 eO)] ++ ca1) (by simp) ?_;refine (HF1.out (rd l0 eO) _ A6.out _ (uH HB.out)).mono ?_;rintro e w8 ⟨rfl,hb⟩;replace HB:=xH HB hb;(try clear hb)));go_ret;exact ⟨eX,uH HB.out⟩
   ·have H':=zA H;clear H;have Og : 0 ≤ (eO : Int):=oD;have Oh : eO < (l0.length : Int):=oD;obtain ⟨ail,aeL,Cf⟩:=Kd.gK HR0.out eO Og Oh;cases aeL;replace Cf:=hc HB Cf;replace Og:=eq_true Og;replace Oh:=eq_true Oh;go_wp2_with (first | (go_at_fn G1;refine eD (args':=fi1 ++ #[.int .i64 (rd l0 eO)] ++ ca1) (by simp) ?_;refine (HF1.out (rd l0 eO) _ A6.out _ (uH HB.out)).mono ?_;rintro e w9 ⟨rfl,hb⟩;replace HB:=xH HB hb;(try clear hb)));go_roundg k1;(case measure=>have:=HK1.out;omega);(case rel=>exact ⟨(wrap64 (eO + 1)),eS,H',⟨by have:=HK1.out;omega⟩,⟨uH HB.out⟩⟩)
end Go.Proofs.Ytilbjbahmilhkaa.Pr
