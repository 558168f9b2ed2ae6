/- Texts of this session in one: what functions of the program compute, and plain facts of it, under the conditions that each theorem names. -/
import Derived.ArgAppend
import Derived.Below
import Derived.BigQuiet
import Derived.Deep.AppendLies
import Derived.Deep.CutBlock
import Derived.Deep.DeepCutAuto
import Derived.Deep.Draws
import Derived.Deep.LoopGhost
import Derived.Deep.OwnRows
import Derived.Deep.QuietTactic
import Derived.Deep.RegionHeld3
import Derived.KernelRfl
import Derived.Laws.BitsLemmas
import Derived.Laws.BytesArg
import Derived.Laws.IdiomCopy
import Derived.Laws.MakeOwn
import Derived.Laws.OwnMore
import Derived.Laws.Rows
import Derived.Laws.Slices
import Derived.Lib.AppendStr
import Derived.Lib.ConvBytes
import Derived.Maps.AppendAt
import Derived.OrdersHeld
import Derived.OwnWalk
import Derived.RowKit
import Derived.RowKit3
import Derived.Shelf.Abstract
import Derived.Tactics
import Derived.Test.YtokkabgkjhpecaaProg
import Derived.WalkKit
import Derived.WideLaws
import Derived.Test.YtokkabgkjhpecaaWApart
import Derived.Test.YtokkabgkjhpecaaWArr
import Derived.Test.YtokkabgkjhpecaaWAt
import Derived.Test.YtokkabgkjhpecaaWEqStruct
import Derived.Test.YtokkabgkjhpecaaWFoot
import Derived.Test.YtokkabgkjhpecaaWFootNe
import Derived.Test.YtokkabgkjhpecaaWFour
import Derived.Test.YtokkabgkjhpecaaWGuard
import Derived.Test.YtokkabgkjhpecaaWInv
import Derived.Test.YtokkabgkjhpecaaWInvWords
import Derived.Test.YtokkabgkjhpecaaWKept
import Derived.Test.YtokkabgkjhpecaaWLast
import Derived.Test.YtokkabgkjhpecaaWMore
import Derived.Test.YtokkabgkjhpecaaWN
import Derived.Test.YtokkabgkjhpecaaWNEv
import Derived.Test.YtokkabgkjhpecaaWQPut
import Derived.Test.YtokkabgkjhpecaaWRepsOne
import Derived.Test.YtokkabgkjhpecaaWShare
import Derived.Test.YtokkabgkjhpecaaWTab
import Derived.Test.YtokkabgkjhpecaaWWords
import Derived.Test.YtokkabgkjhpecaaWZeros
/- Function values: what a caller is told of a value of function type (its call answers as a plain function says), and one step of a walk that calls it. -/
namespace Go.Proofs.Ytokkabgkjhpecaa.Pr
open Go.RowKit Go.Proofs.YtokkabgkjhpecaaW.PrintWords Go.Proofs.YtokkabgkjhpecaaW.PrintLast Go.Proofs.YtokkabgkjhpecaaW.PrintMore
section
variable {P : Program} {w W : World} {F : Value}

/-- F is a function value that takes nothing and answers b in every later world. -/
def FnB (P : Program) (w : World) (F : Value) (b : Bool) : Prop :=
  ∃ (g : FuncId) (fi ca : Array Value), F = .func (.func g) fi ca ∧ Enters P g ∧
    ∀ W, Below w.heap.size w W → Calls P g (fi ++ ca) W fun e W' => e = .returned (.bool b) ∧ Below W.heap.size W W'
/-- F is a function value that takes a whole number x and answers f x. -/
def FnI (P : Program) (w : World) (F : Value) (f : Int → Option Bool) : Prop :=
  ∃ (g : FuncId) (fi ca : Array Value), F = .func (.func g) fi ca ∧ Enters P g ∧
    ∀ x r, f x = some r → ∀ W, Below w.heap.size w W → Calls P g (fi ++ #[.int .i64 x] ++ ca) W fun e W' => e = .returned (.bool r) ∧ Below W.heap.size W W'
/-- F is a function value that takes a list l of whole numbers and answers f l. -/
def FnL (P : Program) (w : World) (F : Value) (f : List Int → Option Bool) : Prop :=
  ∃ (g : FuncId) (fi ca : Array Value), F = .func (.func g) fi ca ∧ Enters P g ∧
    ∀ l r A c, f l = some r → ∀ W, Below w.heap.size w W → Kd.C (Kd.int .i64) W A l.length l → l.length ≤ c →
      Calls P g (fi ++ #[.slice A l.length c] ++ ca) W fun e W' => e = .returned (.bool r) ∧ Below W.heap.size W W'

theorem FnB.of {g : FuncId} {fn : Func} (hf : P.funcs[g]? = some fn) (hn : (fn.name == "runtime.NumGoroutine") = false) (hb : fn.body.isSome = true := by rfl) {fi ca : Array Value} {b : Bool}
    (h : ∀ W, Below w.heap.size w W → Calls P g (fi ++ ca) W fun e W' => e = .returned (.bool b) ∧ Below W.heap.size W W') : FnB P w (.func (.func g) fi ca) b :=
  ⟨g, fi, ca, rfl, fun args W => enters_ hf hn hb args W, h⟩
theorem FnI.of {g : FuncId} {fn : Func} (hf : P.funcs[g]? = some fn) (hn : (fn.name == "runtime.NumGoroutine") = false) (hb : fn.body.isSome = true := by rfl) {fi ca : Array Value} {f : Int → Option Bool}
    (h : ∀ x r, f x = some r → ∀ W, Below w.heap.size w W → Calls P g (fi ++ #[.int .i64 x] ++ ca) W fun e W' => e = .returned (.bool r) ∧ Below W.heap.size W W') : FnI P w (.func (.func g) fi ca) f :=
  ⟨g, fi, ca, rfl, fun args W => enters_ hf hn hb args W, h⟩
theorem FnL.of {g : FuncId} {fn : Func} (hf : P.funcs[g]? = some fn) (hn : (fn.name == "runtime.NumGoroutine") = false) (hb : fn.body.isSome = true := by rfl) {fi ca : Array Value} {f : List Int → Option Bool}
    (h : ∀ l r A c, f l = some r → ∀ W, Below w.heap.size w W → Kd.C (Kd.int .i64) W A l.length l → l.length ≤ c →
      Calls P g (fi ++ #[.slice A l.length c] ++ ca) W fun e W' => e = .returned (.bool r) ∧ Below W.heap.size W W') : FnL P w (.func (.func g) fi ca) f :=
  ⟨g, fi, ca, rfl, fun args W => enters_ hf hn hb args W, h⟩

theorem FnB.later {F : Value} {b : Bool} (hb : Below w.heap.size w W) (h : FnB P w F b) : FnB P W F b := by
  obtain ⟨g, fi, ca, e, he, h⟩ := h
  exact ⟨g, fi, ca, e, he, fun W2 h2 => h W2 (hb.trans (h2.mono hb.size))⟩
theorem FnI.later {F : Value} {f : Int → Option Bool} (hb : Below w.heap.size w W) (h : FnI P w F f) : FnI P W F f := by
  obtain ⟨g, fi, ca, e, he, h⟩ := h
  exact ⟨g, fi, ca, e, he, fun x r hr W2 h2 => h x r hr W2 (hb.trans (h2.mono hb.size))⟩
theorem FnL.later {F : Value} {f : List Int → Option Bool} (hb : Below w.heap.size w W) (h : FnL P w F f) : FnL P W F f := by
  obtain ⟨g, fi, ca, e, he, h⟩ := h
  exact ⟨g, fi, ca, e, he, fun l r A c hr W2 h2 => h l r A c hr W2 (hb.trans (h2.mono hb.size))⟩
end
end Go.Proofs.Ytokkabgkjhpecaa.Pr
/- Short names for what the printed walks spell out: facts of a world hold in each world that comes of it by new blocks and drawn numbers; no condition. -/
namespace Go.Proofs.Ytokkabgkjhpecaa.Pr
open Go Go.RowKit Go.Proofs.YtokkabgkjhpecaaW.PrintWords Go.Proofs.YtokkabgkjhpecaaW.PrintLast Go.Proofs.YtokkabgkjhpecaaW.PrintMore

/-- `w` comes of `w0` by new blocks and drawn numbers alone. -/
class Up (w0 w : World) : Prop where
  up : Below w0.heap.size w0 w
instance Up.refl (w : World) : Up w w := ⟨Below.refl _ _⟩
instance Up.alloc (w0 w : World) (o : Obj) [u : Up w0 w] : Up w0 (w.alloc o) := ⟨below_alloc u.up o⟩
instance Up.drew (w0 w : World) [u : Up w0 w] : Up w0 w.drew := ⟨below_drew1 u.up⟩
instance Up.drewN (w0 w : World) (n : Nat) [u : Up w0 w] : Up w0 (w.drewN n) := ⟨pw_below_drewN u.up n⟩
instance Up.setDrewN (w0 w : World) (n : Nat) (a : Addr) (v : Value) [u : Up w0 (w.setCell a v)] : Up w0 ((w.drewN n).setCell a v) := ⟨⟨u.up.os, u.up.tape, u.up.output, u.up.size, u.up.block⟩⟩
instance Up.setDrew (w0 w : World) (a : Addr) (v : Value) [u : Up w0 (w.setCell a v)] : Up w0 (w.drew.setCell a v) := ⟨⟨u.up.os, u.up.tape, u.up.output, u.up.size, u.up.block⟩⟩
theorem setCell_drewN (w : World) (n : Nat) (a : Addr) (v : Value) : (w.drewN n).setCell a v = (w.setCell a v).drewN n := rfl
/-- The block lies behind the border. -/
class Geq (b g : Nat) : Prop where
  geq : b ≤ g
theorem geI {b g : Nat} (h : Aside0 (b ≤ g)) : Geq b g := ⟨h.out⟩
/-- The same, and cells of own blocks may be set. -/
class UpS (b : Nat) (w0 w : World) : Prop where
  up : ∀ {w1 : World}, b = w1.heap.size → Below b w1 w0 → Below b w1 w
instance UpS.refl (b : Nat) (w : World) : UpS b w w := ⟨fun _ h => h⟩
instance UpS.alloc (b : Nat) (w0 w : World) (o : Obj) [u : UpS b w0 w] : UpS b w0 (w.alloc o) := ⟨by rintro w1 rfl h; exact below_alloc (u.up rfl h) o⟩
instance UpS.drew (b : Nat) (w0 w : World) [u : UpS b w0 w] : UpS b w0 w.drew := ⟨fun e h => below_drew1 (u.up e h)⟩
instance UpS.drewN (b : Nat) (w0 w : World) (n : Nat) [u : UpS b w0 w] : UpS b w0 (w.drewN n) := ⟨fun e h => pw_below_drewN (u.up e h) n⟩
instance UpS.setCell (b : Nat) (w0 w : World) (g j : Nat) (v : Value) [u : UpS b w0 w] [q : Geq b g] : UpS b w0 (w.setCell ⟨g, j, none⟩ v) := ⟨by rintro w1 rfl h; exact below_set (u.up rfl h) q.geq⟩
section
variable {α : Type} {d : Kd α} {e : Nat} {w0 w w1 : World} {base : Nat} {ok : Nat → Prop} {v : Value} {xs : List α}
theorem uR (h : d.R e w0 base ok v xs) [u : Up w0 w] : d.R e w base ok v xs := Kd.R_below h u.up
theorem uC {A : Option Addr} {n : Nat} (h : d.C w0 A n xs) [u : Up w0 w] : d.C w A n xs := Kd.C_below h u.up
theorem uB {g : Nat} {o : Obj} (h : w0.heap[g]? = some o) [u : Up w0 w] : w.heap[g]? = some o := blk_below h u.up
theorem uH (h : Below w1.heap.size w1 w0) [u : UpS w1.heap.size w0 w] : Below w1.heap.size w1 w := u.up rfl h
theorem zA {p : Prop} (h : p) : Aside0 p := Aside0.mk h
theorem xB {g : Nat} {o : Obj} (h : Aside0 (w0.heap[g]? = some o)) (hb : Below w.heap.size w w1) [u : Up w0 w] : Aside0 (w1.heap[g]? = some o) := zA (blk_below (blk_below h.out u.up) hb)
theorem xR (h : Aside0 (d.R e w0 base ok v xs)) (hb : Below w.heap.size w w1) [u : Up w0 w] : Aside0 (d.R e w1 base ok v xs) := zA (Kd.R_below (Kd.R_below h.out u.up) hb)
theorem xH {W : World} (h : Aside0 (Below W.heap.size W w0)) (hb : Below w.heap.size w w1) [u : UpS W.heap.size w0 w] : Aside0 (Below W.heap.size W w1) := zA (below_step (u.up rfl h.out) hb)
theorem neL {g : Nat} {o : Obj} (h : Aside0 (w0.heap[g]? = some o)) [u : Up w0 w] : g ≠ w.heap.size := Nat.ne_of_lt (blk_lt (blk_below h.out u.up))
theorem neG {g : Nat} {o : Obj} (h : Aside0 (w0.heap[g]? = some o)) [u : Up w0 w] : w.heap.size ≠ g := Nat.ne_of_gt (blk_lt (blk_below h.out u.up))
end
section
variable {α β : Type} {f : α → β} {x a : α} {l : List α} {i : Nat}
theorem la : Array.map f l.toArray = (l.map f).toArray := List.map_toArray
theorem lb : List.map f (a :: l) = f a :: List.map f l := List.map_cons
theorem lc : List.map f [] = [] := List.map_nil
theorem ld : (l.drop i).length = l.length - i := List.length_drop
theorem le : (l.take i).length = min i l.length := List.length_take
theorem ls (l : List α) (i : Nat) (a : α) : l.toArray.setIfInBounds i a = (l.set i a).toArray := List.setIfInBounds_toArray l i a
theorem lz : (x :: l).set 0 a = a :: l := List.set_cons_zero
theorem ln : (x :: l).set (i + 1) a = x :: l.set i a := List.set_cons_succ
end
/-- What copy(xs, ys) makes of xs. -/
def cpy (xs ys : List Int) : List Int := ys.take (min ys.length xs.length) ++ xs.drop (min ys.length xs.length)
section
variable {P : Program} {ops : Array Oper} {rest : List Oper} {o : Oper} {a : Act} {Q : Exit → Act → World → Prop}
theorem R_copy_int {k : IntKind} {w0 W : World} (base : Nat) (hgd : o.guard = none) (s x : Operand) (t t' e : TypeId)
    (ho : o.op = .call { callee := .builtin .copy, args := #[s, x], argTypes := #[t, t'] }) (ht : P.underlying t = some (.slice e)) (z : Value) (bytes : Nat) (hinfo : (P.info? e).map (fun i => (i.zero, i.size, i.bytes)) = some (some z, 1, bytes))
    (v : Value) (xs ys : List Int) (A : Option Addr) (m c : Nat) (ok : Nat → Prop) (hs : a.eval s = v) (hx : a.eval x = .slice A m c)
    (HO : (Kd.int k).R e W base ok v xs) (HR : (Kd.int k).C W A m ys) (HB : Below base w0 W) (hbase : base ≤ W.heap.size)
    (h : ∀ w1, (Kd.int k).R e w1 base ok v (cpy xs ys) → Below base w0 w1 → W.grownBy w1 v.ownBlock → (v.ownBlock = v.ownBlock ∨ ∃ b, v.ownBlock = some b ∧ W.heap.size ≤ b) → wpList P ops Q rest (a.put o.dst (.int .i64 ((min m xs.length : Nat) : Int))) w1) :
    wpList P ops Q (o :: rest) a W := by
  have hm : ys.length = m := Kd.C_len HR
  subst hm
  have hi : (P.info? e).map (·.size) = some 1 := by
    obtain ⟨i0, hi, hz⟩ := Option.map_eq_some_iff.1 hinfo
    simp only [Prod.mk.injEq] at hz
    rw [hi, Option.map_some, hz.2.1]
  exact Kd.R_copy (h1 := fun _ => rfl) (0 : Int) base hgd s x t t' e ho ht hi v xs ys A ys.length c ok hs hx HO HR HB hbase (fun w1 h1 h2 h3 => h w1 h1 h2 h3 (.inl rfl))
end
end Go.Proofs.Ytokkabgkjhpecaa.Pr
/- Printed by a program of this session out of the translation: what these functions of the program compute, under the conditions that each theorem names. -/
namespace Go.Proofs.Ytokkabgkjhpecaa.Pr
open Go.RowKit Go.Proofs.YtokkabgkjhpecaaW.PrintWords Go.Proofs.YtokkabgkjhpecaaW.PrintLast Go.Proofs.YtokkabgkjhpecaaW.PrintMore
attribute [local go_sem] max2_int min2_int max_two min_two max_three min_three max_four min_four   -- for this text's walks alone
set_option linter.unusedVariables false
set_option linter.unusedSimpArgs false



def errW : Option Int → Value
  | none => .nilIface
  | some c => .iface 0 (.int .i64 c)
theorem errW_none : errW none = .nilIface := rfl
theorem errW_some (c : Int) : errW (some c) = .iface 0 (.int .i64 c) := rfl

theorem info2 : (Try.prog.info? 2).map (fun i => (i.zero, i.size, i.bytes)) = some (some (.int .i64 0), 1, 8) := by kernel_rfl
theorem info22 : (Try.prog.info? 22).map (fun i => (i.zero, i.size, i.bytes)) = some (some (.slice none 0 0), 1, 24) := by kernel_rfl
-- the values' own types
def rd_L1 (xs : List (List Int)) (i : Int) : (List Int) := xs.getD i.toNat ([] : List Int)
theorem at_L1 {w : World} {A : Option Addr} {n : Nat} {xs : List (List Int)} (h : Kd.C (Kd.slice 2 (Kd.int .i64)) w A n xs) (i : Int) (h0 : 0 ≤ i) (h1 : i < n) : ∃ ad A0 c0, A = some ad ∧ w.cell? (ad.add i.toNat) = some (.slice A0 (rd_L1 xs i).length c0) ∧ (rd_L1 xs i).length ≤ c0 ∧ (Kd.int .i64).C w A0 (rd_L1 xs i).length (rd_L1 xs i) := by
  obtain ⟨ad, c, e, _, hK, hc0⟩ := Kd.C_get h ([] : List Int) i h0 h1
  have hc : ∀ j u, c[j]? = some u → w.cell? (ad.add (i.toNat * 1 + j)) = some u := hc0
  obtain ⟨A0, c0, rfl, l0, g0⟩ := hK
  exact ⟨ad, A0, c0, e, by have hq := hc 0 _ rfl; rwa [Nat.mul_one, Nat.add_zero] at hq, l0, g0⟩

def rd_L3 (xs : List (List (List Int))) (i : Int) : (List (List Int)) := xs.getD i.toNat ([] : List (List Int))
theorem at_L3 {w : World} {A : Option Addr} {n : Nat} {xs : List (List (List Int))} (h : Kd.C (Kd.slice 22 (Kd.slice 2 (Kd.int .i64))) w A n xs) (i : Int) (h0 : 0 ≤ i) (h1 : i < n) : ∃ ad A0 c0, A = some ad ∧ w.cell? (ad.add i.toNat) = some (.slice A0 (rd_L3 xs i).length c0) ∧ (rd_L3 xs i).length ≤ c0 ∧ (Kd.slice 2 (Kd.int .i64)).C w A0 (rd_L3 xs i).length (rd_L3 xs i) := by
  obtain ⟨ad, c, e, _, hK, hc0⟩ := Kd.C_get h ([] : List (List Int)) i h0 h1
  have hc : ∀ j u, c[j]? = some u → w.cell? (ad.add (i.toNat * 1 + j)) = some u := hc0
  obtain ⟨A0, c0, rfl, l0, g0⟩ := hK
  exact ⟨ad, A0, c0, e, by have hq := hc 0 _ rfl; rwa [Nat.mul_one, Nat.add_zero] at hq, l0, g0⟩

end Go.Proofs.Ytokkabgkjhpecaa.Pr
/- Printed by a program of this session out of the translation: what these functions of the program compute, under the conditions that each theorem names. -/
namespace Go.Proofs.Ytokkabgkjhpecaa.Pr
open Go.RowKit Go.Proofs.YtokkabgkjhpecaaW.PrintWords Go.Proofs.YtokkabgkjhpecaaW.PrintLast Go.Proofs.YtokkabgkjhpecaaW.PrintMore
attribute [local go_sem] max2_int min2_int max_two min_two max_three min_three max_four min_four   -- for this text's walks alone
set_option linter.unusedVariables false
set_option linter.unusedSimpArgs false

/-! ### impl_Jacobi_field: function 76 -/
def impl_Jacobi_field.f (a0_0 : Int) (l0_1 : List Int) (l0_2 : List Int) : Option (Int) := some a0_0
set_option maxHeartbeats 8000000 in
set_option maxRecDepth 100000 in
theorem impl_Jacobi_field.calls (a0_0 : Int) (A0_1 : Option Addr) (c0_1 : Nat) (l0_1 : List Int) (A0_2 : Option Addr) (c0_2 : Nat) (l0_2 : List Int) (r : Int) (w : World) (hr0_1 : Kd.C (Kd.int .i64) w A0_1 l0_1.length l0_1) (hc0_1 : l0_1.length ≤ c0_1) (hr0_2 : Kd.C (Kd.int .i64) w A0_2 l0_2.length l0_2) (hc0_2 : l0_2.length ≤ c0_2) (h : impl_Jacobi_field.f a0_0 l0_1 l0_2 = some r) :
  Calls Try.prog 76 #[.agg #[.int .i64 a0_0, .slice A0_1 l0_1.length c0_1, .slice A0_2 l0_2.length c0_2]] w fun e w' => e = .returned (.int .i64 r) ∧ Below w.heap.size w w' := by
 have hu46 := Try.underlying46
 have HR0_1 := zA hr0_1
 have HC0_1 := zA hc0_1
 clear hr0_1 hc0_1
 have HR0_2 := zA hr0_2
 have HC0_2 := zA hc0_2
 clear hr0_2 hc0_2
 have HB := zA (Below.refl w.heap.size w)
 have H : (some a0_0) = some r := h
 clear h
 obtain rfl := Option.some.inj H
 go_enter Try.func76, Try.ntmps76
 go_wp2_with (first | ((with_reducible refine gate_dst (N := 1) rfl ?_); refine box_event ?hg (N := 1) ?hd (cs := #[.int .i64 a0_0, .slice A0_1 l0_1.length c0_1, .slice A0_2 l0_2.length c0_2]) (t := 46) ?hr ?_; (case hd => rfl); (case hg => rfl); (case hr => first | (go_simp; done) | (go_simp; rfl)); intro gb469 hg w2 hbox hb; have n0_ := xH HB hb; have n1_ := zA (hbox); have n2_ := zA ((by rw [hg]; exact (below_size (uH HB.out)) : w.heap.size ≤ gb469)); have n3_ := zA ((by rw [hg]; exact (below_size (uH HB.out)) : w.heap.size ≤ gb469)); clear HB; have HB := n0_; have BK469 := n1_; have GW469 := n2_; have GE469 := n3_; have := geI GE469; clear n0_ n1_ n2_ n3_ hb hbox hg; have hcz3_0 : w2.cell? ⟨gb469, 0, none⟩ = some (.int .i64 a0_0) := (blk_cell BK469.out 0).trans rfl; have hcz3_1 : w2.cell? ⟨gb469, 1, none⟩ = some (.slice A0_1 l0_1.length c0_1) := (blk_cell BK469.out 1).trans rfl; have hcz3_2 : w2.cell? ⟨gb469, 2, none⟩ = some (.slice A0_2 l0_2.length c0_2) := (blk_cell BK469.out 2).trans rfl; have hfz3_0 := blk_frozen BK469.out 0; have hfz3_1 := blk_frozen BK469.out 1; have hfz3_2 := blk_frozen BK469.out 2))
 go_ret
 exact ⟨by first | rfl | (simp [errW_none, errW_some] <;> rfl) | (simp [*, errW_none, errW_some] <;> rfl), uH HB.out⟩

end Go.Proofs.Ytokkabgkjhpecaa.Pr
/- Printed by a program of this session out of the translation: what these functions of the program compute, under the conditions that each theorem names. -/
namespace Go.Proofs.Ytokkabgkjhpecaa.Pr
open Go.RowKit Go.Proofs.YtokkabgkjhpecaaW.PrintWords Go.Proofs.YtokkabgkjhpecaaW.PrintLast Go.Proofs.YtokkabgkjhpecaaW.PrintMore
attribute [local go_sem] max2_int min2_int max_two min_two max_three min_three max_four min_four   -- for this text's walks alone
set_option linter.unusedVariables false
set_option linter.unusedSimpArgs false

/-! ### impl_areAll_int64_1: function 162 -/
def impl_areAll_int64_1.f (a0 : Int) (a1_0 : (Int → Option Bool)) : Option (Bool) := (a1_0 a0).bind fun t163 => (some (!t163))
set_option maxHeartbeats 8000000 in
set_option maxRecDepth 100000 in
theorem impl_areAll_int64_1.calls (a0 : Int) (gc1 : Nat) (F1_0 : Value) (a1_0 : (Int → Option Bool)) (r : Bool) (w : World) (hb1 : w.heap[gc1]? = some (.cells #[F1_0] 87 (0, 0))) (hF1_0 : FnI Try.prog w F1_0 a1_0) (h : impl_areAll_int64_1.f a0 a1_0 = some r) :
  Calls Try.prog 162 #[.int .i64 a0, .pointer (some ⟨gc1, 0, none⟩)] w fun e w' => e = .returned (.bool r) ∧ Below w.heap.size w w' := by
 obtain ⟨G1_0, fi1_0, ca1_0, rfl, hen1_0, hF1_0⟩ := hF1_0
 have hen1_0 : ∀ (args_ : Array Value) (w_ : World), (callFunc G1_0 args_).run Try.prog w_ = .ok (.enter G1_0 args_) w_ := hen1_0
 have HF1_0 := zA hF1_0
 clear hF1_0
 have BK1 := zA hb1
 clear hb1
 have HB := zA (Below.refl w.heap.size w)
 have H : ((a1_0 a0).bind fun t163 => (some (!t163))) = some r := h
 clear h
 replace H := Option.bind_eq_some_iff.mp H
 obtain ⟨t163, A30, H⟩ := H
 replace H : (some (!t163)) = some r := H
 have A3 := zA A30
 clear A30
 obtain rfl := Option.some.inj H
 have hcz4_0 : w.cell? ⟨gc1, 0, none⟩ = some ((.func (.func G1_0) fi1_0 ca1_0)) := (blk_cell BK1.out 0).trans rfl
 have hfz4_0 := blk_frozen BK1.out 0
 go_enter Try.func162, Try.ntmps162
 go_wp2_with (first | (go_at_fn G1_0; refine calls_of_args (args' := fi1_0 ++ #[.int .i64 a0] ++ ca1_0) (by simp) ?_; refine (HF1_0.out a0 _ A3.out _ (uH HB.out)).mono ?_; rintro e w5 ⟨rfl, hb⟩; have n0_ := xB BK1 hb; have n1_ := xH HB hb; clear BK1 HB; have BK1 := n0_; have HB := n1_; clear n0_ n1_; (try clear hb)))
 go_ret
 exact ⟨by first | rfl | (simp [errW_none, errW_some] <;> rfl) | (simp [*, errW_none, errW_some] <;> rfl), uH HB.out⟩

end Go.Proofs.Ytokkabgkjhpecaa.Pr
/- Printed by a program of this session out of the translation: what these functions of the program compute, under the conditions that each theorem names. -/
namespace Go.Proofs.Ytokkabgkjhpecaa.Pr
open Go.RowKit Go.Proofs.YtokkabgkjhpecaaW.PrintWords Go.Proofs.YtokkabgkjhpecaaW.PrintLast Go.Proofs.YtokkabgkjhpecaaW.PrintMore
attribute [local go_sem] max2_int min2_int max_two min_two max_three min_three max_four min_four   -- for this text's walks alone
set_option linter.unusedVariables false
set_option linter.unusedSimpArgs false

/-! ### impl_field_has: function 77 -/
def impl_field_has.f (a0 : Int) (a1 : Int) : Option (Bool) := if a1 ≥ 0 then (some (decide (a1 < a0))) else (some false)
set_option maxHeartbeats 8000000 in
set_option maxRecDepth 100000 in
theorem impl_field_has.calls (a0 : Int) (a1 : Int) (r : Bool) (w : World) (h : impl_field_has.f a0 a1 = some r) :
  Calls Try.prog 77 #[.int .i64 a0, .int .i64 a1] w fun e w' => e = .returned (.bool r) ∧ Drawn0 w w' := by
 have H : (if a1 ≥ 0 then (some (decide (a1 < a0))) else (some false)) = some r := h
 clear h
 by_cases c3 : a1 ≥ 0
 ·rw [if_pos c3] at H
  have c3b0 : decide (0 ≤ a1) = true := decide_eq_true c3
  clear c3
  obtain rfl := Option.some.inj H
  go_enter Try.func77, Try.ntmps77
  go_wp2
  go_ret
  exact ⟨by first | rfl | (simp; done) | (simp [*]; done), by repeat (first | exact Drawn0.refl _ | apply Drawn0.step)⟩
 ·rw [if_neg c3] at H
  have c3b0 : decide (0 ≤ a1) = false := decide_eq_false c3
  clear c3
  obtain rfl := Option.some.inj H
  go_enter Try.func77, Try.ntmps77
  go_wp2
  go_ret
  exact ⟨by first | rfl | (simp; done) | (simp [*]; done), by repeat (first | exact Drawn0.refl _ | apply Drawn0.step)⟩

end Go.Proofs.Ytokkabgkjhpecaa.Pr
/- Printed by a program of this session out of the translation: what these functions of the program compute, under the conditions that each theorem names. -/
namespace Go.Proofs.Ytokkabgkjhpecaa.Pr
open Go.RowKit Go.Proofs.YtokkabgkjhpecaaW.PrintWords Go.Proofs.YtokkabgkjhpecaaW.PrintLast Go.Proofs.YtokkabgkjhpecaaW.PrintMore
attribute [local go_sem] max2_int min2_int max_two min_two max_three min_three max_four min_four   -- for this text's walks alone
set_option linter.unusedVariables false
set_option linter.unusedSimpArgs false

/-! ### impl_field_mod: function 88 -/
def impl_field_mod.f (a0 : Int) (a1 : Int) : Option (Int) := if a0 = 0 then (none) else (some (Int.tmod (wrap64 ((Int.tmod a1 a0) + a0)) a0))
set_option maxHeartbeats 8000000 in
set_option maxRecDepth 100000 in
theorem impl_field_mod.calls (a0 : Int) (a1 : Int) (r : Int) (w : World) (h : impl_field_mod.f a0 a1 = some r) :
  Calls Try.prog 88 #[.int .i64 a0, .int .i64 a1] w fun e w' => e = .returned (.int .i64 r) ∧ Drawn0 w w' := by
 have H : (if a0 = 0 then (none) else (some (Int.tmod (wrap64 ((Int.tmod a1 a0) + a0)) a0))) = some r := h
 clear h
 by_cases c3 : a0 = 0
 ·rw [if_pos c3] at H
  exact absurd H (by simp)
 ·rw [if_neg c3] at H
  have c3b0 : (a0 == 0) = false := beq_eq_false_iff_ne.mpr c3
  have c3b1 : (a0 != 0) = true := bne_iff_ne.mpr c3
  obtain rfl := Option.some.inj H
  go_enter Try.func88, Try.ntmps88
  go_wp2
  go_ret
  exact ⟨by first | rfl | (simp; done) | (simp [*]; done), by repeat (first | exact Drawn0.refl _ | apply Drawn0.step)⟩

end Go.Proofs.Ytokkabgkjhpecaa.Pr
/- Printed by a program of this session out of the translation: what these functions of the program compute, under the conditions that each theorem names. -/
namespace Go.Proofs.Ytokkabgkjhpecaa.Pr
open Go.RowKit Go.Proofs.YtokkabgkjhpecaaW.PrintWords Go.Proofs.YtokkabgkjhpecaaW.PrintLast Go.Proofs.YtokkabgkjhpecaaW.PrintMore
attribute [local go_sem] max2_int min2_int max_two min_two max_three min_three max_four min_four   -- for this text's walks alone
set_option linter.unusedVariables false
set_option linter.unusedSimpArgs false

/-! ### impl_length_int64: function 121 -/
def impl_length_int64.f (l0 : List Int) : Option (Int) := some (l0.length : Int)
set_option maxHeartbeats 8000000 in
set_option maxRecDepth 100000 in
theorem impl_length_int64.calls (A0 : Option Addr) (c0 : Nat) (l0 : List Int) (r : Int) (w : World) (hr0 : Kd.C (Kd.int .i64) w A0 l0.length l0) (hc0 : l0.length ≤ c0) (h : impl_length_int64.f l0 = some r) :
  Calls Try.prog 121 #[.slice A0 l0.length c0] w fun e w' => e = .returned (.int .i64 r) ∧ Drawn0 w w' := by
 have HR0 := zA hr0
 have HC0 := zA hc0
 clear hr0 hc0
 have H : (some (l0.length : Int)) = some r := h
 clear h
 obtain rfl := Option.some.inj H
 go_enter Try.func121, Try.ntmps121
 go_wp2
 go_ret
 exact ⟨by first | rfl | (simp; done) | (simp [*]; done), by repeat (first | exact Drawn0.refl _ | apply Drawn0.step)⟩

end Go.Proofs.Ytokkabgkjhpecaa.Pr
/- Printed by a program of this session out of the translation: what these functions of the program compute, under the conditions that each theorem names. -/
namespace Go.Proofs.Ytokkabgkjhpecaa.Pr
open Go.RowKit Go.Proofs.YtokkabgkjhpecaaW.PrintWords Go.Proofs.YtokkabgkjhpecaaW.PrintLast Go.Proofs.YtokkabgkjhpecaaW.PrintMore
attribute [local go_sem] max2_int min2_int max_two min_two max_three min_three max_four min_four   -- for this text's walks alone
set_option linter.unusedVariables false
set_option linter.unusedSimpArgs false

/-! ### impl_Jacobi_size: function 75 -/
def impl_Jacobi_size.f (a0_0 : Int) (l0_1 : List Int) (l0_2 : List Int) : Option (Int) := (impl_length_int64.f l0_1).bind fun t468 => (some t468)
set_option maxHeartbeats 8000000 in
set_option maxRecDepth 100000 in
theorem impl_Jacobi_size.calls (a0_0 : Int) (A0_1 : Option Addr) (c0_1 : Nat) (l0_1 : List Int) (A0_2 : Option Addr) (c0_2 : Nat) (l0_2 : List Int) (r : Int) (w : World) (hr0_1 : Kd.C (Kd.int .i64) w A0_1 l0_1.length l0_1) (hc0_1 : l0_1.length ≤ c0_1) (hr0_2 : Kd.C (Kd.int .i64) w A0_2 l0_2.length l0_2) (hc0_2 : l0_2.length ≤ c0_2) (h : impl_Jacobi_size.f a0_0 l0_1 l0_2 = some r) :
  Calls Try.prog 75 #[.agg #[.int .i64 a0_0, .slice A0_1 l0_1.length c0_1, .slice A0_2 l0_2.length c0_2]] w fun e w' => e = .returned (.int .i64 r) ∧ Below w.heap.size w w' := by
 have hu46 := Try.underlying46
 have HR0_1 := zA hr0_1
 have HC0_1 := zA hc0_1
 clear hr0_1 hc0_1
 have HR0_2 := zA hr0_2
 have HC0_2 := zA hc0_2
 clear hr0_2 hc0_2
 have HB := zA (Below.refl w.heap.size w)
 have H : ((impl_length_int64.f l0_1).bind fun t468 => (some t468)) = some r := h
 clear h
 replace H := Option.bind_eq_some_iff.mp H
 obtain ⟨t468, A20, H⟩ := H
 replace H : (some t468) = some r := H
 have A2 := zA A20
 clear A20
 obtain rfl := Option.some.inj H
 go_enter Try.func75, Try.ntmps75
 go_wp2_with (first | ((with_reducible refine gate_dst (N := 1) rfl ?_); refine box_event ?hg (N := 1) ?hd (cs := #[.int .i64 a0_0, .slice A0_1 l0_1.length c0_1, .slice A0_2 l0_2.length c0_2]) (t := 46) ?hr ?_; (case hd => rfl); (case hg => rfl); (case hr => first | (go_simp; done) | (go_simp; rfl)); intro gb467 hg w3 hbox hb; have n0_ := xH HB hb; have n1_ := zA (hbox); have n2_ := zA ((by rw [hg]; exact (below_size (uH HB.out)) : w.heap.size ≤ gb467)); have n3_ := zA ((by rw [hg]; exact (below_size (uH HB.out)) : w.heap.size ≤ gb467)); clear HB; have HB := n0_; have BK467 := n1_; have GW467 := n2_; have GE467 := n3_; have := geI GE467; clear n0_ n1_ n2_ n3_ hb hbox hg; have hcz4_0 : w3.cell? ⟨gb467, 0, none⟩ = some (.int .i64 a0_0) := (blk_cell BK467.out 0).trans rfl; have hcz4_1 : w3.cell? ⟨gb467, 1, none⟩ = some (.slice A0_1 l0_1.length c0_1) := (blk_cell BK467.out 1).trans rfl; have hcz4_2 : w3.cell? ⟨gb467, 2, none⟩ = some (.slice A0_2 l0_2.length c0_2) := (blk_cell BK467.out 2).trans rfl; have hfz4_0 := blk_frozen BK467.out 0; have hfz4_1 := blk_frozen BK467.out 1; have hfz4_2 := blk_frozen BK467.out 2) | ((with_reducible refine gate_callee (f := 121) rfl ?_); refine goesL_ (some 5) rfl rfl Try.func121 (by kernel_rfl) rfl #[.slice A0_1 l0_1.length c0_1] rfl (by (try simp only [la, lb, lc]); first | done | rfl | (simp only [ld, le]; rfl)) ?_; (with_reducible refine (impl_length_int64.calls _ _ l0_1 t468 _ ?side1 ?side2 A2.out).mono ?_); (case side1 => exact uC ((Kd.C_below HR0_1.out HB.out))); (case side2 => exact HC0_1.out); rintro e w' ⟨rfl, ⟨nd, rfl⟩⟩; refine ⟨_, rfl, ?_⟩))
 go_ret
 exact ⟨by first | rfl | (simp [errW_none, errW_some] <;> rfl) | (simp [*, errW_none, errW_some] <;> rfl), uH HB.out⟩

end Go.Proofs.Ytokkabgkjhpecaa.Pr
/- Printed by a program of this session out of the translation: what these functions of the program compute, under the conditions that each theorem names. -/
namespace Go.Proofs.Ytokkabgkjhpecaa.Pr
open Go.RowKit Go.Proofs.YtokkabgkjhpecaaW.PrintWords Go.Proofs.YtokkabgkjhpecaaW.PrintLast Go.Proofs.YtokkabgkjhpecaaW.PrintMore
attribute [local go_sem] max2_int min2_int max_two min_two max_three min_three max_four min_four   -- for this text's walks alone
set_option linter.unusedVariables false
set_option linter.unusedSimpArgs false

/-! ### impl_trimmed: function 101 -/
def impl_trimmed.l0 : Nat → List Int → Option (List Int)
 | 0, _ => none
 | k + 1, x0 => if (x0.length : Int) > 0 then (if 0 ≤ (wrap64 ((x0.length : Int) - 1)) then (if (wrap64 ((x0.length : Int) - 1)) < (x0.length : Int) then (if (rd x0 (wrap64 ((x0.length : Int) - 1))) = 0 then (if (wrap64 ((x0.length : Int) - 1)) ≤ (x0.length : Int) then (impl_trimmed.l0 k (x0.take ((wrap64 ((x0.length : Int) - 1)) : Int).toNat)) else (none)) else (some x0)) else (none)) else (none)) else (some x0)
def impl_trimmed.f (k : Nat) (l0 : List Int) : Option (List Int) := impl_trimmed.l0 k l0
theorem impl_trimmed.mono_l : ∀ k, (∀ y0, LeO (impl_trimmed.l0 k y0) (impl_trimmed.l0 (k + 1) y0))
 | 0 => fun _ r h => by simp [impl_trimmed.l0] at h
 | k + 1 => by
  have ih0 := impl_trimmed.mono_l k
  ·intro y0
   unfold impl_trimmed.l0
   repeat' first
   | (with_reducible exact ih0 _)
   | (with_reducible exact LeO.refl _)
   | (with_reducible exact LeO.none _)
   | (with_reducible refine LeO.ite ?_ ?_)
   | (with_reducible refine LeO.bind ?_ (fun _ => ?_))
   | exact ih0 _
   | exact LeO.none _
   | refine LeO.ite ?_ ?_
   | refine LeO.bind ?_ (fun _ => ?_)
theorem impl_trimmed.mono : ∀ a0 k, LeO (impl_trimmed.f k a0) (impl_trimmed.f (k + 1) a0) := by
 intro a0 k
 have ih0 := impl_trimmed.mono_l k
 unfold impl_trimmed.f
 repeat' first
   | (with_reducible exact ih0 _)
   | (with_reducible exact LeO.refl _)
   | (with_reducible exact LeO.none _)
   | (with_reducible refine LeO.ite ?_ ?_)
   | (with_reducible refine LeO.bind ?_ (fun _ => ?_))
   | exact ih0 _
   | exact LeO.none _
   | refine LeO.ite ?_ ?_
   | refine LeO.bind ?_ (fun _ => ?_)
set_option maxHeartbeats 8000000 in
set_option maxRecDepth 100000 in
theorem impl_trimmed.calls (k : Nat) (P0_ : Nat → Prop) (u9000_ : Value) (l0 : List Int) (r : List Int) (w0 w : World) (hB : Below w0.heap.size w0 w) (ho0 : Kd.R (Kd.int .i64) 2 w w0.heap.size P0_ u9000_ l0) (h : impl_trimmed.f k l0 = some r) :
  Calls Try.prog 101 #[u9000_] w fun e w' => ∃ v0_ : Value, e = .returned (v0_) ∧ Kd.R (Kd.int .i64) 2 w' w0.heap.size (fun k_ => (P0_ k_ ∨ w.heap.size ≤ k_)) v0_ r ∧ Below w0.heap.size w0 w' ∧ Kept w w' (fun k_ => P0_ k_) := by
 have HO0 := zA (show Kd.R (Kd.int .i64) 2 w w0.heap.size (fun k_ => (P0_ k_ ∨ w.heap.size ≤ k_)) u9000_ l0 from Kd.R_mono ho0 (fun k_ hk => (.inl hk)))
 have HK := zA (Kept.refl w (fun k_ => P0_ k_))
 have HW0 := zA hB.size
 have HB := zA hB
 clear hB
 have H : (impl_trimmed.l0 k l0) = some r := h
 clear h
 have H' := zA H
 clear H
 go_enter Try.func101, Try.ntmps101
 go_wp2
 go_loopg [0] k (fun kq v0 w' => ∃ (x0_1 : List Int), Aside0 (impl_trimmed.l0 kq x0_1 = some r) ∧ Aside0 (kq ≤ k) ∧ Aside0 (Kd.R (Kd.int .i64) 2 w' w0.heap.size (fun k_ => (P0_ k_ ∨ w.heap.size ≤ k_)) v0 x0_1) ∧ Aside0 (Kept w w' (fun k_ => P0_ k_)) ∧ Aside0 (Below w0.heap.size w0 w'))
 case atStart => exact ⟨(l0), H', ⟨Nat.le_refl _⟩, ⟨uR HO0.out⟩, ⟨by repeat (first | (with_reducible first | exact HK.out | apply Kept.alloc | apply Kept.drewN | apply Kept.drew) | exact HK.out)⟩, ⟨uH HB.out⟩⟩
 case round =>
  clear H'
  try clear c1
  obtain ⟨x0_1, HA, HK1, HO_0, HK, HB⟩ := hrel
  cases gk with
  | zero => exact absurd HA.out (by simp [impl_trimmed.l0])
  | succ k1 =>
   have H := HA.out
   clear HA
   simp only [impl_trimmed.l0] at H
   by_cases c2 : (x0_1.length : Int) > 0
   ·rw [if_pos c2] at H
    have c2b0 : decide (0 < (x0_1.length : Int)) = true := decide_eq_true c2
    have c2b1 : decide (0 < x0_1.length) = true := decide_eq_true (by omega)
    clear c2
    obtain ⟨ji3, hji3⟩ : ∃ j_ : Int, (wrap64 ((x0_1.length : Int) - 1)) = j_ := ⟨_, rfl⟩
    replace H : (if 0 ≤ (ji3) then (if (ji3) < (x0_1.length : Int) then (if (rd x0_1 (ji3)) = 0 then (if (ji3) ≤ (x0_1.length : Int) then (impl_trimmed.l0 k1 (x0_1.take ((ji3) : Int).toNat)) else (none)) else (some x0_1)) else (none)) else (none)) = some r := by first | (rw [hji3] at H; exact H) | (simp only [hji3] at H ⊢; exact H)
    have hji3w : (IntKind.i64.wrap ((x0_1.length : Int) - 1)) = ji3 := (i64_w _).trans hji3
    by_cases c4 : 0 ≤ (ji3)
    ·rw [if_pos c4] at H
     have c4b0 : decide (0 ≤ (ji3)) = true := decide_eq_true c4
     clear c4
     by_cases c5 : (ji3) < (x0_1.length : Int)
     ·rw [if_pos c5] at H
      have c5b0 : decide ((ji3) < (x0_1.length : Int)) = true := decide_eq_true c5
      clear c5
      by_cases c6 : (rd x0_1 (ji3)) = 0
      ·rw [if_pos c6] at H
       have c6b0 : ((rd x0_1 (ji3)) == 0) = true := beq_iff_eq.mpr c6
       have c6b1 : ((rd x0_1 (ji3)) != 0) = false := bne_eq_false_iff_eq.mpr c6
       clear c6
       by_cases c7 : (ji3) ≤ (x0_1.length : Int)
       ·rw [if_pos c7] at H
        have c7b0 := eq_true c7
        have c7b1 : decide ((ji3) ≤ (x0_1.length : Int)) = true := decide_eq_true c7
        clear c7
        obtain ⟨y482, hy482⟩ : ∃ y_ : List Int, y_ = (x0_1.take ((ji3) : Int).toNat) := ⟨_, rfl⟩
        replace H : (impl_trimmed.l0 k1 y482) = some r := by first | (rw [hy482]; with_reducible exact H) | (have H2_ := (Option.bind_some _ _).symm.trans H; rw [hy482]; with_reducible exact H2_) | (have H2_ := (Option.bind_some _ _).symm.trans H; with_reducible exact H2_) | with_reducible exact H | (rw [hy482]; exact H) | exact H
        have Ny482 := zA hy482
        clear hy482
        have H' := zA H
        clear H
        obtain ⟨Ao8, co8, eo8⟩ := Kd.R_slice HO_0.out
        subst eo8
        have p481 : 0 ≤ ((ji3) : Int) := of_decide_eq_true (by first | (with_reducible assumption) | assumption)
        have q481 : (ji3) < (x0_1.length : Int) := of_decide_eq_true (by first | (with_reducible assumption) | assumption)
        obtain ⟨ad481, e481, hx481_0⟩ := Kd.at_int (Kd.R_reads' HO_0.out).2.2 (ji3) p481 q481
        cases e481
        replace p481 := eq_true p481
        replace q481 := eq_true q481
        have q9 : ((ji3) : Int) ≤ ((x0_1.length : Int) : Int) := of_decide_eq_true (by first | (with_reducible assumption) | assumption)
        obtain ⟨i09, hi09, _, hsz9, _⟩ := info_parts info2
        have hcut9 := cut_to (P := Try.prog) 22 2 .i64 Try.underlying22 hi09 (some ad481) x0_1.length co8 (ji3) (of_decide_eq_true (by first | (with_reducible assumption) | assumption)) q9 (Kd.R_reads' HO_0.out).2.1
        have hr9 := Kd.R_take (m := ((ji3) : Int).toNat) HO_0.out (by omega)
        have hy9 : y482.length = ((ji3) : Int).toNat := (by rw [Ny482.out, List.length_take]; omega)
        rw [← Ny482.out] at hr9
        rw [← hy9] at hr9 hcut9
        clear hy9 hi09 hsz9 HO_0
        have HO484 := zA hr9
        clear hr9
        replace q9 := eq_true q9
        go_wp2
        go_roundg k1
        case measure => have := HK1.out; omega
        case rel => exact ⟨(y482), H', ⟨by have := HK1.out; omega⟩, ⟨uR HO484.out⟩, ⟨by repeat (first | (with_reducible first | exact HK.out | apply Kept.alloc | apply Kept.drewN | apply Kept.drew) | exact HK.out)⟩, ⟨uH HB.out⟩⟩
       ·rw [if_neg c7] at H
        exact absurd H (by simp)
      ·rw [if_neg c6] at H
       have c6b0 : ((rd x0_1 (ji3)) == 0) = false := beq_eq_false_iff_ne.mpr c6
       have c6b1 : ((rd x0_1 (ji3)) != 0) = true := bne_iff_ne.mpr c6
       obtain rfl := Option.some.inj H
       obtain ⟨Ao10, co10, eo10⟩ := Kd.R_slice HO_0.out
       subst eo10
       have p481 : 0 ≤ ((ji3) : Int) := of_decide_eq_true (by first | (with_reducible assumption) | assumption)
       have q481 : (ji3) < (x0_1.length : Int) := of_decide_eq_true (by first | (with_reducible assumption) | assumption)
       obtain ⟨ad481, e481, hx481_0⟩ := Kd.at_int (Kd.R_reads' HO_0.out).2.2 (ji3) p481 q481
       cases e481
       replace p481 := eq_true p481
       replace q481 := eq_true q481
       go_wp2
       go_ret
       exact ⟨_, by first | rfl | (simp [errW_none, errW_some] <;> rfl) | (simp only [← hji3]; first | rfl | (simp [errW_none, errW_some] <;> rfl)) | (simp [*, errW_none, errW_some] <;> rfl), uR HO_0.out, uH HB.out, by repeat (first | (with_reducible first | exact HK.out | apply Kept.alloc | apply Kept.drewN | apply Kept.drew) | exact HK.out)⟩
     ·rw [if_neg c5] at H
      exact absurd H (by simp)
    ·rw [if_neg c4] at H
     exact absurd H (by simp)
   ·rw [if_neg c2] at H
    have c2b0 : decide (0 < (x0_1.length : Int)) = false := decide_eq_false c2
    have c2b1 : decide (0 < x0_1.length) = false := decide_eq_false (by omega)
    clear c2
    obtain rfl := Option.some.inj H
    obtain ⟨Ao11, co11, eo11⟩ := Kd.R_slice HO_0.out
    subst eo11
    go_wp2
    go_ret
    exact ⟨_, by first | rfl | (simp [errW_none, errW_some] <;> rfl) | (simp [*, errW_none, errW_some] <;> rfl), uR HO_0.out, uH HB.out, by repeat (first | (with_reducible first | exact HK.out | apply Kept.alloc | apply Kept.drewN | apply Kept.drew) | exact HK.out)⟩

end Go.Proofs.Ytokkabgkjhpecaa.Pr
/- Printed by a program of this session out of the translation: what these functions of the program compute, under the conditions that each theorem names. -/
namespace Go.Proofs.Ytokkabgkjhpecaa.Pr
open Go.RowKit Go.Proofs.YtokkabgkjhpecaaW.PrintWords Go.Proofs.YtokkabgkjhpecaaW.PrintLast Go.Proofs.YtokkabgkjhpecaaW.PrintMore
attribute [local go_sem] max2_int min2_int max_two min_two max_three min_three max_four min_four   -- for this text's walks alone
set_option linter.unusedVariables false
set_option linter.unusedSimpArgs false

/-! ### impl_field_add: function 143 -/
def impl_field_add.l0 : Nat → Int → Int → List Int → List Int → Int → Int → Option (List Int)
 | 0, _, _, _, _, _, _ => none
 | k + 1, x0, x3, x9, x21, x22, x23 => if x23 < x22 then (if 0 ≤ x23 then (if x23 < (x21.length : Int) then (if x23 < (x9.length : Int) then ((impl_field_mod.f x0 (wrap64 ((rd x9 x23) + (wrap64 (x3 * (rd x21 x23)))))).bind fun t504 => (impl_field_add.l0 k x0 x3 (x9.set (x23 : Int).toNat t504) x21 x22 (wrap64 (x23 + 1)))) else (none)) else (none)) else (none)) else ((impl_trimmed.f k x9).bind fun t506 => (some t506))
def impl_field_add.f (k : Nat) (a0 : Int) (l1 : List Int) (l2 : List Int) (a3 : Int) : Option (List Int) := if 0 ≤ (mx (l1.length : Int) (l2.length : Int)) then (if (mx (l1.length : Int) (l2.length : Int) : Int).toNat ≤ 35184372088832 then (impl_field_add.l0 k a0 a3 (cpy (List.replicate (mx (l1.length : Int) (l2.length : Int) : Int).toNat 0) l1) l2 (l2.length : Int) 0) else (none)) else (none)
theorem impl_field_add.mono_l : ∀ k, (∀ y0 y1 y2 y3 y4 y5, LeO (impl_field_add.l0 k y0 y1 y2 y3 y4 y5) (impl_field_add.l0 (k + 1) y0 y1 y2 y3 y4 y5))
 | 0 => fun _ _ _ _ _ _ r h => by simp [impl_field_add.l0] at h
 | k + 1 => by
  have ih0 := impl_field_add.mono_l k
  ·intro y0 y1 y2 y3 y4 y5
   unfold impl_field_add.l0
   repeat' first
   | (with_reducible exact ih0 _ _ _ _ _ _)
   | (with_reducible exact impl_trimmed.mono _ _)
   | (with_reducible exact LeO.refl _)
   | (with_reducible exact LeO.none _)
   | (with_reducible refine LeO.ite ?_ ?_)
   | (with_reducible refine LeO.bind ?_ (fun _ => ?_))
   | exact ih0 _ _ _ _ _ _
   | exact impl_trimmed.mono _ _
   | exact LeO.none _
   | refine LeO.ite ?_ ?_
   | refine LeO.bind ?_ (fun _ => ?_)
theorem impl_field_add.mono : ∀ a0 a1 a2 a3 k, LeO (impl_field_add.f k a0 a1 a2 a3) (impl_field_add.f (k + 1) a0 a1 a2 a3) := by
 intro a0 a1 a2 a3 k
 have ih0 := impl_field_add.mono_l k
 unfold impl_field_add.f
 repeat' first
   | (with_reducible exact ih0 _ _ _ _ _ _)
   | (with_reducible exact impl_trimmed.mono _ _)
   | (with_reducible exact LeO.refl _)
   | (with_reducible exact LeO.none _)
   | (with_reducible refine LeO.ite ?_ ?_)
   | (with_reducible refine LeO.bind ?_ (fun _ => ?_))
   | exact ih0 _ _ _ _ _ _
   | exact impl_trimmed.mono _ _
   | exact LeO.none _
   | refine LeO.ite ?_ ?_
   | refine LeO.bind ?_ (fun _ => ?_)
set_option maxHeartbeats 8000000 in
set_option maxRecDepth 100000 in
theorem impl_field_add.calls (k : Nat) (a0 : Int) (A1 : Option Addr) (c1 : Nat) (l1 : List Int) (A2 : Option Addr) (c2 : Nat) (l2 : List Int) (a3 : Int) (r : List Int) (w : World) (hr1 : Kd.C (Kd.int .i64) w A1 l1.length l1) (hc1 : l1.length ≤ c1) (hr2 : Kd.C (Kd.int .i64) w A2 l2.length l2) (hc2 : l2.length ≤ c2) (h : impl_field_add.f k a0 l1 l2 a3 = some r) :
  Calls Try.prog 143 #[.int .i64 a0, .slice A1 l1.length c1, .slice A2 l2.length c2, .int .i64 a3] w fun e w' => ∃ v0_ : Value, e = .returned (v0_) ∧ Kd.R (Kd.int .i64) 2 w' w.heap.size (fun _ => True) v0_ r ∧ Below w.heap.size w w' := by
 have HR1 := zA hr1
 have HC1 := zA hc1
 clear hr1 hc1
 have HR2 := zA hr2
 have HC2 := zA hc2
 clear hr2 hc2
 have HB := zA (Below.refl w.heap.size w)
 have H : (if 0 ≤ (mx (l1.length : Int) (l2.length : Int)) then (if (mx (l1.length : Int) (l2.length : Int) : Int).toNat ≤ 35184372088832 then (impl_field_add.l0 k a0 a3 (cpy (List.replicate (mx (l1.length : Int) (l2.length : Int) : Int).toNat 0) l1) l2 (l2.length : Int) 0) else (none)) else (none)) = some r := h
 clear h
 obtain ⟨ji5, hji5⟩ : ∃ j_ : Int, (mx (l1.length : Int) (l2.length : Int)) = j_ := ⟨_, rfl⟩
 replace H : (if 0 ≤ (ji5) then (if (ji5 : Int).toNat ≤ 35184372088832 then (impl_field_add.l0 k a0 a3 (cpy (List.replicate (ji5 : Int).toNat 0) l1) l2 (l2.length : Int) 0) else (none)) else (none)) = some r := by first | (rw [hji5] at H; exact H) | (simp only [hji5] at H ⊢; exact H)
 (try (have hji5l : 0 ≤ ji5 := by (rw [← hji5]; unfold mx; (repeat' split) <;> omega)))
 (try (have hji5m : 0 ≤ ji5 := by omega))
 have hji5_ : (if (l1.length : Int) < (l2.length : Int) then (l2.length : Int) else (l1.length : Int)) = ji5 := hji5
 (try (have hji5n : (if l1.length < l2.length then (l2.length : Int) else (l1.length : Int)) = ji5 := by have h_ := hji5_; simpa only [Int.ofNat_lt] using h_))
 by_cases c6 : 0 ≤ (ji5)
 ·rw [if_pos c6] at H
  have c6b0 := eq_true c6
  have c6b1 : decide (0 ≤ (ji5)) = true := decide_eq_true c6
  clear c6
  by_cases c7 : (ji5 : Int).toNat ≤ 35184372088832
  ·rw [if_pos c7] at H
   have c7b0 := eq_true c7
   have c7b1 : decide ((ji5 : Int).toNat ≤ 35184372088832) = true := decide_eq_true c7
   clear c7
   obtain ⟨y496, hy496⟩ : ∃ y_ : List Int, y_ = (List.replicate (ji5 : Int).toNat 0) := ⟨_, rfl⟩
   replace H : (impl_field_add.l0 k a0 a3 (cpy y496 l1) l2 (l2.length : Int) 0) = some r := by first | (rw [hy496]; with_reducible exact H) | (have H2_ := (Option.bind_some _ _).symm.trans H; rw [hy496]; with_reducible exact H2_) | (have H2_ := (Option.bind_some _ _).symm.trans H; with_reducible exact H2_) | with_reducible exact H | (rw [hy496]; exact H) | exact H
   have Ny496 := zA hy496
   clear hy496
   obtain ⟨y499, hy499⟩ : ∃ y_ : List Int, y_ = (cpy y496 l1) := ⟨_, rfl⟩
   replace H : (impl_field_add.l0 k a0 a3 y499 l2 (l2.length : Int) 0) = some r := by first | (rw [hy499]; with_reducible exact H) | (have H2_ := (Option.bind_some _ _).symm.trans H; rw [hy499]; with_reducible exact H2_) | (have H2_ := (Option.bind_some _ _).symm.trans H; with_reducible exact H2_) | with_reducible exact H | (rw [hy499]; exact H) | exact H
   have Ny499 := zA hy499
   clear hy499
   have H' := zA H
   clear H
   go_enter Try.func143, Try.ntmps143
   go_wp2_with (first | ((with_reducible refine gate_dst (N := 17) rfl ?_); refine Kd.R_make (Kd.int .i64) _ 2 rfl (N := 17) rfl 22 _ _ rfl ji5 rfl rfl Try.underlying22 (.int .i64 0) 8 info2 rfl (by decide) (by omega) 0 (ok := fun _ => True) (okp := fun _ => True) rfl (fun _ hk => hk) trivial (of_decide_eq_true (by first | (with_reducible assumption) | assumption)) (Nat.le_trans (Nat.mul_le_mul_right _ (of_decide_eq_true (by first | (with_reducible assumption) | assumption) : ji5.toNat ≤ 35184372088832)) (by omega)) (Below.refl _ _) (Nat.le_refl _) ?_; intro v497 w8 ho9 hb hg_ hnew_; clear hg_ hnew_; (first | rw [← Ny496.out] at ho9 | (simp only [Int.reduceToNat] at ho9; rw [← Ny496.out] at ho9)); have n0_ := zA (Kd.R_lower ho9 (below_size (uH HB.out))); have n1_ := xH HB hb; clear HB; have HO498 := n0_; have HB := n1_; clear n0_ n1_ hb ho9) | ((with_reducible refine gate_builtin (b := .copy) (xs := #[.tmp 18, .tmp 19]) rfl ?_); skip; refine R_copy_int (k := .i64) (w0 := w) w.heap.size ?g1 (.tmp 18) (.tmp 19) 22 22 2 ?g2 ?g3 (.int .i64 0) 8 ?g4 v497 y496 l1 ?g5 ?g6 ?g7 (fun _ => True) ?g8 ?g9 ?aO ?aR ?aB ?aS ?_; (case g1 => rfl); (case g2 => rfl); (case g3 => exact Try.underlying22); (case g4 => exact info2); (case g8 => rfl); (case g9 => rfl); (case aR => exact uC ((Kd.C_below HR1.out HB.out))); (case aB => exact (uH HB.out)); (case aO => exact (uR HO498.out)); (case aS => exact (below_size (uH HB.out))); skip; intro w10 ho hb hg hat; rw [← Ny499.out] at ho; have n0_ := zA (hb); have n1_ := zA (ho); clear HB HO498; have HB := n0_; have HO501 := n1_; clear n0_ n1_ ho hb hg hat))
   go_loopg [23] k (fun kq v23 w' => ∃ (x9_1 : List Int) (x23_1 : Int), v23 = .int .i64 x23_1 ∧ Aside0 (impl_field_add.l0 kq a0 a3 x9_1 l2 (l2.length : Int) x23_1 = some r) ∧ Aside0 (kq ≤ k) ∧ Aside0 (Kd.R (Kd.int .i64) 2 w' w.heap.size (fun _ => True) v497 x9_1) ∧ Aside0 (Below w.heap.size w w'))
   case atStart => exact ⟨(y499), (0), (by first | rfl | (simp; done) | (simp [*]; done)), H', ⟨Nat.le_refl _⟩, ⟨uR HO501.out⟩, ⟨uH HB.out⟩⟩
   case round =>
    clear H'
    try clear c1
    try clear c2
    try clear p2
    try clear c6
    try clear c6b0
    try clear c6b1
    try clear c7
    try clear c7b0
    try clear c7b1
    obtain ⟨x9_1, x23_1, rfl, HA, HK1, HO_9, HB⟩ := hrel
    cases gk with
    | zero => exact absurd HA.out (by simp [impl_field_add.l0])
    | succ k1 =>
     have H := HA.out
     clear HA
     simp only [impl_field_add.l0] at H
     by_cases c11 : x23_1 < (l2.length : Int)
     ·rw [if_pos c11] at H
      have c11b0 : decide (x23_1 < (l2.length : Int)) = true := decide_eq_true c11
      clear c11
      by_cases c12 : 0 ≤ x23_1
      ·rw [if_pos c12] at H
       have c12b0 : decide (0 ≤ x23_1) = true := decide_eq_true c12
       clear c12
       by_cases c13 : x23_1 < (l2.length : Int)
       ·rw [if_pos c13] at H
        have c13b0 : decide (x23_1 < (l2.length : Int)) = true := decide_eq_true c13
        clear c13
        by_cases c14 : x23_1 < (x9_1.length : Int)
        ·rw [if_pos c14] at H
         have c14b0 : decide (x23_1 < (x9_1.length : Int)) = true := decide_eq_true c14
         clear c14
         replace H := Option.bind_eq_some_iff.mp H
         obtain ⟨t504, A150, H⟩ := H
         replace H : (impl_field_add.l0 k1 a0 a3 (x9_1.set (x23_1 : Int).toNat t504) l2 (l2.length : Int) (wrap64 (x23_1 + 1))) = some r := H
         have A15 := zA A150
         clear A150
         obtain ⟨y505, hy505⟩ : ∃ y_ : List Int, y_ = (x9_1.set (x23_1 : Int).toNat t504) := ⟨_, rfl⟩
         replace H : (impl_field_add.l0 k1 a0 a3 y505 l2 (l2.length : Int) (wrap64 (x23_1 + 1))) = some r := by first | (rw [hy505]; with_reducible exact H) | (have H2_ := (Option.bind_some _ _).symm.trans H; rw [hy505]; with_reducible exact H2_) | (have H2_ := (Option.bind_some _ _).symm.trans H; with_reducible exact H2_) | with_reducible exact H | (rw [hy505]; exact H) | exact H
         have Ny505 := zA hy505
         clear hy505
         have H' := zA H
         clear H
         have p502 : 0 ≤ (x23_1 : Int) := of_decide_eq_true (by first | (with_reducible assumption) | assumption)
         have q502 : x23_1 < (l2.length : Int) := of_decide_eq_true (by first | (with_reducible assumption) | assumption)
         obtain ⟨ad502, e502, hx502_0⟩ := Kd.at_int HR2.out x23_1 p502 q502
         cases e502
         replace hx502_0 := (HB.out.cell (World.block_lt_of_cell? w _ hx502_0)).trans hx502_0
         replace p502 := eq_true p502
         replace q502 := eq_true q502
         obtain ⟨Ao17, co17, eo17⟩ := Kd.R_slice HO_9.out
         subst eo17
         have p503 : 0 ≤ (x23_1 : Int) := of_decide_eq_true (by first | (with_reducible assumption) | assumption)
         have q503 : x23_1 < (x9_1.length : Int) := of_decide_eq_true (by first | (with_reducible assumption) | assumption)
         obtain ⟨ad503, e503, hx503_0⟩ := Kd.at_int (Kd.R_reads' HO_9.out).2.2 x23_1 p503 q503
         cases e503
         replace p503 := eq_true p503
         replace q503 := eq_true q503
         go_wp2_with (first | ((with_reducible refine gate_callee (f := 88) rfl ?_); refine goesL_ (some 39) rfl rfl Try.func88 (by kernel_rfl) rfl #[.int .i64 a0, .int .i64 (wrap64 ((rd x9_1 x23_1) + (wrap64 (a3 * (rd l2 x23_1)))))] rfl (by (try simp only [la, lb, lc]); first | done | rfl | (simp only [ld, le]; rfl)) ?_; (with_reducible refine (impl_field_mod.calls a0 (wrap64 ((rd x9_1 x23_1) + (wrap64 (a3 * (rd l2 x23_1))))) t504 _ A15.out).mono ?_); rintro e w' ⟨rfl, ⟨nd, rfl⟩⟩; refine ⟨_, rfl, ?_⟩; (try (rw [drewN_self wr]; generalize hq_ : World.drewN wr _ = wr; have n0_ : Aside0 (Kd.R (Kd.int .i64) 2 wr w.heap.size (fun _ => True) (.slice (some ad503) x9_1.length co17) x9_1) := ⟨by rw [← hq_]; exact (uR HO_9.out)⟩; have n1_ : Aside0 (Below w.heap.size w wr) := ⟨by rw [← hq_]; exact (uH HB.out)⟩; clear HO_9 HB hq_; have HO_9 := n0_; have HB := n1_; clear n0_ n1_)); have p16 : 0 ≤ (x23_1 : Int) := of_decide_eq_true (by first | (with_reducible assumption) | assumption); have q16 : (x23_1 : Int) < ((x9_1.length : Int) : Int) := of_decide_eq_true (by first | (with_reducible assumption) | assumption); obtain ⟨go16, co16, eo16, gb16, gl16, cl16, HG16⟩ := Kd.R_form HO_9.out (by omega); (first | cases eo16 | (injection eo16 with ea_ en_ ec_; (first | subst ea_ | (injection ea_ with ea_; subst ea_)); subst ec_; clear en_)); have GB16 := zA gb16; have := geI GB16; have GG16 := zA HG16; clear gb16 gl16 HG16; (first | simp only [add_plain] at hx503_0 | skip); obtain ⟨hx16_0, hf16_0⟩ := Kd.R_celln 0 HO_9.out (x23_1 : Int) p16 q16; replace p16 := eq_true p16; replace q16 := eq_true q16; obtain ⟨hy18_, hz18_⟩ := Kd.R_celln 0 HO_9.out (x23_1 : Int) (of_decide_eq_true (by first | (with_reducible assumption) | assumption)) (of_decide_eq_true (by first | (with_reducible assumption) | assumption)); have HP18 := Kd.R_putg HO_9.out (x23_1 : Int) t504) | ((with_reducible refine gate_store (t := 2) (p := 40) rfl ?_); refine store_event (t := 2) (p := 40) (v := ?vo_w19) (w1 := (wr.setCell ⟨go16, (x23_1 : Int).toNat, none⟩ (.int .i64 t504))) ?hg ?ho ?hn ?hr ?_; (case ho => rfl); (case hg => rfl); (case hn => rfl); (case hr => first | (go_simp; done) | (go_simp; rfl)); intro w19 hw; have hg : wr.grownBy w19 (some go16) := (by rw [hw]; exact HP18.2); have hp_ : Kd.R (Kd.int .i64) 2 w19 w.heap.size (fun _ => True) (.slice (some ⟨go16, 0, none⟩) x9_1.length co17) y505 := (by rw [hw, Ny505.out]; exact HP18.1); clear HP18; have n0_ := zA (hp_); have n1_ := zA ((by rw [hw]; exact below_set (HB.out) GB16.out : Below w.heap.size w w19)); clear HO_9 HB; have HO_9 := n0_; have HB := n1_; clear n0_ n1_ hg hw hp_))
         go_roundg k1
         case measure => have := HK1.out; omega
         case rel => exact ⟨(y505), (wrap64 (x23_1 + 1)), (by first | rfl | (simp; done) | (simp [*]; done)), H', ⟨by have := HK1.out; omega⟩, ⟨uR HO_9.out⟩, ⟨uH HB.out⟩⟩
        ·rw [if_neg c14] at H
         exact absurd H (by simp)
       ·rw [if_neg c13] at H
        exact absurd H (by simp)
      ·rw [if_neg c12] at H
       exact absurd H (by simp)
     ·rw [if_neg c11] at H
      have c11b0 : decide (x23_1 < (l2.length : Int)) = false := decide_eq_false c11
      clear c11
      replace H := Option.bind_eq_some_iff.mp H
      obtain ⟨t506, A200, H⟩ := H
      replace H : (some t506) = some r := H
      have A20 := zA A200
      clear A200
      obtain rfl := Option.some.inj H
      obtain ⟨Ao21, co21, eo21⟩ := Kd.R_slice HO_9.out
      subst eo21
      go_wp2_with (first | ((with_reducible refine gate_callee (f := 101) rfl ?_); refine goesL_ (some 43) rfl rfl Try.func101 (by kernel_rfl) rfl #[.slice Ao21 x9_1.length co21] rfl (by (try simp only [la, lb, lc]); first | done | rfl | (simp only [ld, le]; rfl)) ?_; (with_reducible refine (impl_trimmed.calls k1 (fun k_ => some k_ = (.slice Ao21 x9_1.length co21 : Value).ownBlock) (.slice Ao21 x9_1.length co21) x9_1 t506 w _ ?side1 ?side2 A20.out).mono ?_); (case side1 => repeat (first | (with_reducible first | exact HB.out | apply below_alloc | apply pw_below_drewN | apply below_drew1) | exact HB.out)); (case side2 => exact Kd.R_tight rfl HO_9.out); rintro e w22 ⟨v507, rfl, ho0, hb, hkp⟩; refine ⟨_, rfl, ?_⟩; have n0_ := zA (Kd.R_mono (ok' := fun k_ => True) ho0 (fun k_ hk_ => trivial)); have n1_ := zA (hb); clear HB HO_9; have HO508 := n0_; have HB := n1_; clear n0_ n1_; (try clear hb); (try clear hkp); (try clear ho0)))
      go_ret
      exact ⟨_, by first | rfl | (simp [errW_none, errW_some] <;> rfl) | (simp only [← hji5]; first | rfl | (simp [errW_none, errW_some] <;> rfl)) | (simp [*, errW_none, errW_some] <;> rfl), uR HO508.out, uH HB.out⟩
  ·rw [if_neg c7] at H
   exact absurd H (by simp)
 ·rw [if_neg c6] at H
  exact absurd H (by simp)

end Go.Proofs.Ytokkabgkjhpecaa.Pr
