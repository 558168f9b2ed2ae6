/- Texts of this session in one: what functions of the program compute, and plain facts of it, under the conditions that each theorem names. -/
import Derived.ArgAppend
import Derived.Below
import Derived.BigQuiet
import Derived.Deep.AppendLies
import Derived.Deep.CutBlock
import Derived.Deep.DeepCutAuto
import Derived.Deep.Draws
import Derived.Deep.LoopGhost
import Derived.Deep.OwnRows
import Derived.Deep.QuietTactic
import Derived.Deep.RegionHeld3
import Derived.KernelRfl
import Derived.Laws.BitsLemmas
import Derived.Laws.BytesArg
import Derived.Laws.IdiomCopy
import Derived.Laws.MakeOwn
import Derived.Laws.OwnMore
import Derived.Laws.Rows
import Derived.Laws.Slices
import Derived.Lib.AppendStr
import Derived.Lib.ConvBytes
import Derived.LoopIn
import Derived.LoopNIn
import Derived.Maps.AppendAt
import Derived.OrdersHeld
import Derived.OwnWalk
import Derived.OwnWalkIn
import Derived.RangeFuncBox
import Derived.RangeFuncLeaves
import Derived.RowKit
import Derived.RowKit3
import Derived.Shelf.Abstract
import Derived.Tactics
import Derived.TacticsInMore
import Derived.Test.YtfbnkebgdmfcfaaProg
import Derived.WalkKit
import Derived.WalkSpells
import Derived.WideLaws
import Derived.Test.YtfbnkebgdmfcfaaKWApart
import Derived.Test.YtfbnkebgdmfcfaaKWArr
import Derived.Test.YtfbnkebgdmfcfaaKWAt
import Derived.Test.YtfbnkebgdmfcfaaKWEqStruct
import Derived.Test.YtfbnkebgdmfcfaaKWFoot
import Derived.Test.YtfbnkebgdmfcfaaKWFootNe
import Derived.Test.YtfbnkebgdmfcfaaKWFour
import Derived.Test.YtfbnkebgdmfcfaaKWGuard
import Derived.Test.YtfbnkebgdmfcfaaKWInv
import Derived.Test.YtfbnkebgdmfcfaaKWInvWords
import Derived.Test.YtfbnkebgdmfcfaaKWKept
import Derived.Test.YtfbnkebgdmfcfaaKWLast
import Derived.Test.YtfbnkebgdmfcfaaKWMore
import Derived.Test.YtfbnkebgdmfcfaaKWN
import Derived.Test.YtfbnkebgdmfcfaaKWNEv
import Derived.Test.YtfbnkebgdmfcfaaKWQPut
import Derived.Test.YtfbnkebgdmfcfaaKWRepsOne
import Derived.Test.YtfbnkebgdmfcfaaKWShare
import Derived.Test.YtfbnkebgdmfcfaaKWTab
import Derived.Test.YtfbnkebgdmfcfaaKWWords
import Derived.Test.YtfbnkebgdmfcfaaKWZeros
namespace Go.Proofs.Ytfbnkebgdmfcfaa.Pr
/- Function values: what a caller is told of a value of function type (its call answers as a plain function says), and one step of a walk that calls it. -/
open Go.RowKit Go.Proofs.YtfbnkebgdmfcfaaW.PrintWords Go.Proofs.YtfbnkebgdmfcfaaW.PrintLast Go.Proofs.YtfbnkebgdmfcfaaW.PrintMore
section
variable {P : Program} {w W : World} {F : Value}

/-- F is a function value that takes nothing and answers b in every later world. -/
def FnB (P : Program) (w : World) (F : Value) (b : Bool) : Prop :=
  ∃ (g : FuncId) (fi ca : Array Value), F = .func (.func g) fi ca ∧ Enters P g ∧
    ∀ W, Below w.heap.size w W → Calls P g (fi ++ ca) W fun e W' => e = .returned (.bool b) ∧ Below W.heap.size W W'
/-- F is a function value that takes a whole number x and answers f x. -/
def FnI (P : Program) (w : World) (F : Value) (f : Int → Option Bool) : Prop :=
  ∃ (g : FuncId) (fi ca : Array Value), F = .func (.func g) fi ca ∧ Enters P g ∧
    ∀ x r, f x = some r → ∀ W, Below w.heap.size w W → Calls P g (fi ++ #[.int .i64 x] ++ ca) W fun e W' => e = .returned (.bool r) ∧ Below W.heap.size W W'
/-- F is a function value that takes a list l of whole numbers and answers f l. -/
def FnL (P : Program) (w : World) (F : Value) (f : List Int → Option Bool) : Prop :=
  ∃ (g : FuncId) (fi ca : Array Value), F = .func (.func g) fi ca ∧ Enters P g ∧
    ∀ l r A c, f l = some r → ∀ W, Below w.heap.size w W → Kd.C (Kd.int .i64) W A l.length l → l.length ≤ c →
      Calls P g (fi ++ #[.slice A l.length c] ++ ca) W fun e W' => e = .returned (.bool r) ∧ Below W.heap.size W W'

theorem FnB.of {g : FuncId} {fn : Func} (hf : P.funcs[g]? = some fn) (hn : (fn.name == "runtime.NumGoroutine") = false) (hb : fn.body.isSome = true := by rfl) {fi ca : Array Value} {b : Bool}
    (h : ∀ W, Below w.heap.size w W → Calls P g (fi ++ ca) W fun e W' => e = .returned (.bool b) ∧ Below W.heap.size W W') : FnB P w (.func (.func g) fi ca) b :=
  ⟨g, fi, ca, rfl, fun args W => enters_ hf hn hb args W, h⟩
theorem FnI.of {g : FuncId} {fn : Func} (hf : P.funcs[g]? = some fn) (hn : (fn.name == "runtime.NumGoroutine") = false) (hb : fn.body.isSome = true := by rfl) {fi ca : Array Value} {f : Int → Option Bool}
    (h : ∀ x r, f x = some r → ∀ W, Below w.heap.size w W → Calls P g (fi ++ #[.int .i64 x] ++ ca) W fun e W' => e = .returned (.bool r) ∧ Below W.heap.size W W') : FnI P w (.func (.func g) fi ca) f :=
  ⟨g, fi, ca, rfl, fun args W => enters_ hf hn hb args W, h⟩
theorem FnL.of {g : FuncId} {fn : Func} (hf : P.funcs[g]? = some fn) (hn : (fn.name == "runtime.NumGoroutine") = false) (hb : fn.body.isSome = true := by rfl) {fi ca : Array Value} {f : List Int → Option Bool}
    (h : ∀ l r A c, f l = some r → ∀ W, Below w.heap.size w W → Kd.C (Kd.int .i64) W A l.length l → l.length ≤ c →
      Calls P g (fi ++ #[.slice A l.length c] ++ ca) W fun e W' => e = .returned (.bool r) ∧ Below W.heap.size W W') : FnL P w (.func (.func g) fi ca) f :=
  ⟨g, fi, ca, rfl, fun args W => enters_ hf hn hb args W, h⟩

theorem FnB.later {F : Value} {b : Bool} (hb : Below w.heap.size w W) (h : FnB P w F b) : FnB P W F b := by
  obtain ⟨g, fi, ca, e, he, h⟩ := h
  exact ⟨g, fi, ca, e, he, fun W2 h2 => h W2 (hb.trans (h2.mono hb.size))⟩
theorem FnI.later {F : Value} {f : Int → Option Bool} (hb : Below w.heap.size w W) (h : FnI P w F f) : FnI P W F f := by
  obtain ⟨g, fi, ca, e, he, h⟩ := h
  exact ⟨g, fi, ca, e, he, fun x r hr W2 h2 => h x r hr W2 (hb.trans (h2.mono hb.size))⟩
theorem FnL.later {F : Value} {f : List Int → Option Bool} (hb : Below w.heap.size w W) (h : FnL P w F f) : FnL P W F f := by
  obtain ⟨g, fi, ca, e, he, h⟩ := h
  exact ⟨g, fi, ca, e, he, fun l r A c hr W2 h2 => h l r A c hr W2 (hb.trans (h2.mono hb.size))⟩
end
/- Short names for what the printed walks spell out: facts of a world hold in each world that comes of it by new blocks and drawn numbers; no condition. -/
open Go Go.RowKit Go.Proofs.YtfbnkebgdmfcfaaW.PrintWords Go.Proofs.YtfbnkebgdmfcfaaW.PrintLast Go.Proofs.YtfbnkebgdmfcfaaW.PrintMore
/-- `w` comes of `w0` by new blocks and drawn numbers alone. -/
class Up (w0 w : World) : Prop where
  up : Below w0.heap.size w0 w
instance Up.refl (w : World) : Up w w := ⟨Below.refl _ _⟩
instance Up.alloc (w0 w : World) (o : Obj) [u : Up w0 w] : Up w0 (w.alloc o) := ⟨below_alloc u.up o⟩
instance Up.drew (w0 w : World) [u : Up w0 w] : Up w0 w.drew := ⟨below_drew1 u.up⟩
instance Up.drewN (w0 w : World) (n : Nat) [u : Up w0 w] : Up w0 (w.drewN n) := ⟨pw_below_drewN u.up n⟩
instance Up.setDrewN (w0 w : World) (n : Nat) (a : Addr) (v : Value) [u : Up w0 (w.setCell a v)] : Up w0 ((w.drewN n).setCell a v) := ⟨⟨u.up.os, u.up.tape, u.up.output, u.up.size, u.up.block⟩⟩
instance Up.setDrew (w0 w : World) (a : Addr) (v : Value) [u : Up w0 (w.setCell a v)] : Up w0 (w.drew.setCell a v) := ⟨⟨u.up.os, u.up.tape, u.up.output, u.up.size, u.up.block⟩⟩
theorem setCell_drewN (w : World) (n : Nat) (a : Addr) (v : Value) : (w.drewN n).setCell a v = (w.setCell a v).drewN n := rfl
/-- The block lies behind the border. -/
class Geq (b g : Nat) : Prop where
  geq : b ≤ g
theorem geI {b g : Nat} (h : Aside0 (b ≤ g)) : Geq b g := ⟨h.out⟩
/-- The same, and cells of own blocks may be set. -/
class UpS (b : Nat) (w0 w : World) : Prop where
  up : ∀ {w1 : World}, b = w1.heap.size → Below b w1 w0 → Below b w1 w
instance UpS.refl (b : Nat) (w : World) : UpS b w w := ⟨fun _ h => h⟩
instance UpS.alloc (b : Nat) (w0 w : World) (o : Obj) [u : UpS b w0 w] : UpS b w0 (w.alloc o) := ⟨by rintro w1 rfl h; exact below_alloc (u.up rfl h) o⟩
instance UpS.drew (b : Nat) (w0 w : World) [u : UpS b w0 w] : UpS b w0 w.drew := ⟨fun e h => below_drew1 (u.up e h)⟩
instance UpS.drewN (b : Nat) (w0 w : World) (n : Nat) [u : UpS b w0 w] : UpS b w0 (w.drewN n) := ⟨fun e h => pw_below_drewN (u.up e h) n⟩
instance UpS.setCell (b : Nat) (w0 w : World) (g j : Nat) (v : Value) [u : UpS b w0 w] [q : Geq b g] : UpS b w0 (w.setCell ⟨g, j, none⟩ v) := ⟨by rintro w1 rfl h; exact below_set (u.up rfl h) q.geq⟩
section
variable {α : Type} {d : Kd α} {e : Nat} {w0 w w1 : World} {base : Nat} {ok : Nat → Prop} {v : Value} {xs : List α}
theorem uR (h : d.R e w0 base ok v xs) [u : Up w0 w] : d.R e w base ok v xs := Kd.R_below h u.up
theorem uC {A : Option Addr} {n : Nat} (h : d.C w0 A n xs) [u : Up w0 w] : d.C w A n xs := Kd.C_below h u.up
theorem uB {g : Nat} {o : Obj} (h : w0.heap[g]? = some o) [u : Up w0 w] : w.heap[g]? = some o := blk_below h u.up
theorem uH (h : Below w1.heap.size w1 w0) [u : UpS w1.heap.size w0 w] : Below w1.heap.size w1 w := u.up rfl h
theorem zA {p : Prop} (h : p) : Aside0 p := Aside0.mk h
theorem xB {g : Nat} {o : Obj} (h : Aside0 (w0.heap[g]? = some o)) (hb : Below w.heap.size w w1) [u : Up w0 w] : Aside0 (w1.heap[g]? = some o) := zA (blk_below (blk_below h.out u.up) hb)
theorem xR (h : Aside0 (d.R e w0 base ok v xs)) (hb : Below w.heap.size w w1) [u : Up w0 w] : Aside0 (d.R e w1 base ok v xs) := zA (Kd.R_below (Kd.R_below h.out u.up) hb)
theorem xH {W : World} (h : Aside0 (Below W.heap.size W w0)) (hb : Below w.heap.size w w1) [u : UpS W.heap.size w0 w] : Aside0 (Below W.heap.size W w1) := zA (below_step (u.up rfl h.out) hb)
theorem neL {g : Nat} {o : Obj} (h : Aside0 (w0.heap[g]? = some o)) [u : Up w0 w] : g ≠ w.heap.size := Nat.ne_of_lt (blk_lt (blk_below h.out u.up))
theorem neG {g : Nat} {o : Obj} (h : Aside0 (w0.heap[g]? = some o)) [u : Up w0 w] : w.heap.size ≠ g := Nat.ne_of_gt (blk_lt (blk_below h.out u.up))
end
section
variable {α β : Type} {f : α → β} {x a : α} {l : List α} {i : Nat}
theorem la : Array.map f l.toArray = (l.map f).toArray := List.map_toArray
theorem lb : List.map f (a :: l) = f a :: List.map f l := List.map_cons
theorem lc : List.map f [] = [] := List.map_nil
theorem ld : (l.drop i).length = l.length - i := List.length_drop
theorem le : (l.take i).length = min i l.length := List.length_take
theorem ls (l : List α) (i : Nat) (a : α) : l.toArray.setIfInBounds i a = (l.set i a).toArray := List.setIfInBounds_toArray l i a
theorem lz : (x :: l).set 0 a = a :: l := List.set_cons_zero
theorem ln : (x :: l).set (i + 1) a = x :: l.set i a := List.set_cons_succ
end
/-- What copy(xs, ys) makes of xs. -/
def cpy (xs ys : List Int) : List Int := ys.take (min ys.length xs.length) ++ xs.drop (min ys.length xs.length)
section
variable {P : Program} {ops : Array Oper} {rest : List Oper} {o : Oper} {a : Act} {Q : Exit → Act → World → Prop}
theorem R_copy_int {k : IntKind} {w0 W : World} (base : Nat) (hgd : o.guard = none) (s x : Operand) (t t' e : TypeId)
    (ho : o.op = .call { callee := .builtin .copy, args := #[s, x], argTypes := #[t, t'] }) (ht : P.underlying t = some (.slice e)) (z : Value) (bytes : Nat) (hinfo : (P.info? e).map (fun i => (i.zero, i.size, i.bytes)) = some (some z, 1, bytes))
    (v : Value) (xs ys : List Int) (A : Option Addr) (m c : Nat) (ok : Nat → Prop) (hs : a.eval s = v) (hx : a.eval x = .slice A m c)
    (HO : (Kd.int k).R e W base ok v xs) (HR : (Kd.int k).C W A m ys) (HB : Below base w0 W) (hbase : base ≤ W.heap.size)
    (h : ∀ w1, (Kd.int k).R e w1 base ok v (cpy xs ys) → Below base w0 w1 → W.grownBy w1 v.ownBlock → (v.ownBlock = v.ownBlock ∨ ∃ b, v.ownBlock = some b ∧ W.heap.size ≤ b) → wpList P ops Q rest (a.put o.dst (.int .i64 ((min m xs.length : Nat) : Int))) w1) :
    wpList P ops Q (o :: rest) a W := by
  have hm : ys.length = m := Kd.C_len HR
  subst hm
  have hi : (P.info? e).map (·.size) = some 1 := by
    obtain ⟨i0, hi, hz⟩ := Option.map_eq_some_iff.1 hinfo
    simp only [Prod.mk.injEq] at hz
    rw [hi, Option.map_some, hz.2.1]
  exact Kd.R_copy (h1 := fun _ => rfl) (0 : Int) base hgd s x t t' e ho ht hi v xs ys A ys.length c ok hs hx HO HR HB hbase (fun w1 h1 h2 h3 => h w1 h1 h2 h3 (.inl rfl))
end
attribute [local go_sem] max2_int min2_int max_two min_two max_three min_three max_four min_four   -- for this text's walks alone
set_option linter.unusedVariables false
set_option linter.unusedSimpArgs false
def errW : Option Int → Value
  | none => .nilIface
  | some c => .iface 0 (.int .i64 c)
theorem errW_none : errW none = .nilIface := rfl
theorem errW_some (c : Int) : errW (some c) = .iface 0 (.int .i64 c) := rfl

theorem info2 : (Try.prog.info? 2).map (fun i => (i.zero, i.size, i.bytes)) = some (some (.int .i64 0), 1, 8) := by kernel_rfl
theorem info22 : (Try.prog.info? 22).map (fun i => (i.zero, i.size, i.bytes)) = some (some (.slice none 0 0), 1, 24) := by kernel_rfl
-- the values' own types
def rd_L1 (xs : List (List Int)) (i : Int) : (List Int) := xs.getD i.toNat ([] : List Int)
theorem at_L1 {w : World} {A : Option Addr} {n : Nat} {xs : List (List Int)} (h : Kd.C (Kd.slice 2 (Kd.int .i64)) w A n xs) (i : Int) (h0 : 0 ≤ i) (h1 : i < n) : ∃ ad A0 c0, A = some ad ∧ w.cell? (ad.add i.toNat) = some (.slice A0 (rd_L1 xs i).length c0) ∧ (rd_L1 xs i).length ≤ c0 ∧ (Kd.int .i64).C w A0 (rd_L1 xs i).length (rd_L1 xs i) := by
  obtain ⟨ad, c, e, _, hK, hc0⟩ := Kd.C_get h ([] : List Int) i h0 h1
  have hc : ∀ j u, c[j]? = some u → w.cell? (ad.add (i.toNat * 1 + j)) = some u := hc0
  obtain ⟨A0, c0, rfl, l0, g0⟩ := hK
  exact ⟨ad, A0, c0, e, by have hq := hc 0 _ rfl; rwa [Nat.mul_one, Nat.add_zero] at hq, l0, g0⟩

def rd_L3 (xs : List (List (List Int))) (i : Int) : (List (List Int)) := xs.getD i.toNat ([] : List (List Int))
theorem at_L3 {w : World} {A : Option Addr} {n : Nat} {xs : List (List (List Int))} (h : Kd.C (Kd.slice 22 (Kd.slice 2 (Kd.int .i64))) w A n xs) (i : Int) (h0 : 0 ≤ i) (h1 : i < n) : ∃ ad A0 c0, A = some ad ∧ w.cell? (ad.add i.toNat) = some (.slice A0 (rd_L3 xs i).length c0) ∧ (rd_L3 xs i).length ≤ c0 ∧ (Kd.slice 2 (Kd.int .i64)).C w A0 (rd_L3 xs i).length (rd_L3 xs i) := by
  obtain ⟨ad, c, e, _, hK, hc0⟩ := Kd.C_get h ([] : List (List Int)) i h0 h1
  have hc : ∀ j u, c[j]? = some u → w.cell? (ad.add (i.toNat * 1 + j)) = some u := hc0
  obtain ⟨A0, c0, rfl, l0, g0⟩ := hK
  exact ⟨ad, A0, c0, e, by have hq := hc 0 _ rfl; rwa [Nat.mul_one, Nat.add_zero] at hq, l0, g0⟩
/-! ### impl_length_int64: function 71 -/
def impl_length_int64.f (l0 : List Int) : Option (Int) := some (l0.length : Int)
set_option maxHeartbeats 8000000 in
set_option maxRecDepth 100000 in
theorem impl_length_int64.calls (A0 : Option Addr) (c0 : Nat) (l0 : List Int) (r : Int) (w : World) (hr0 : Kd.C (Kd.int .i64) w A0 l0.length l0) (hc0 : l0.length ≤ c0) (h : impl_length_int64.f l0 = some r) :
  Calls Try.prog 71 #[.slice A0 l0.length c0] w fun e w' => e = .returned (.int .i64 r) ∧ Drawn0 w w' := by
 have HR0 := zA hr0
 have HC0 := zA hc0
 clear hr0 hc0
 have H : (some (l0.length : Int)) = some r := h
 clear h
 obtain rfl := Option.some.inj H
 go_enter Try.func71, Try.ntmps71
 go_wp2
 go_ret
 exact ⟨by first | rfl | (simp; done) | (simp [*]; done), by repeat (first | exact Drawn0.refl _ | apply Drawn0.step)⟩
/- slices.Backward over whole numbers: a loop over it is told of all indices and numbers, from the last one on; the slice lies within the reach. (Turned from a worked text of the kit on slices.All.) -/
open Go.RowKit Go.Shelf
attribute [local go_sem] Oper.semAt_some
theorem add_block (ad : Addr) (j : Nat) : (ad.add j).block = ad.block := by
  unfold Addr.add
  first | rfl | (split <;> rfl)
/-- What has come when k rounds are over. -/
def upto {α : Type} (f : Nat → α) (k : Nat) : List α := (List.range k).map f
theorem upto_succ {α : Type} (f : Nat → α) (k : Nat) : upto f (k + 1) = upto f k ++ [f k] := by simp [upto, List.range_succ]
theorem upto_length {α : Type} (f : Nat → α) (k : Nat) : (upto f k).length = k := by simp [upto]
/-- The k-th one from behind: its index and the number. -/
def bk (zs : List Int) (len k : Nat) : Int × Int := ((len : Int) - 1 - (k : Int), zs[len - 1 - k]?.getD 0)

/-- What a round keeps: whatever lay below n₀, and the box Bs that holds the slice. -/
def KpB (n₀ Bs : Nat) (W W' : World) : Prop := Below n₀ W W' ∧ ∀ v, W.cell? ⟨Bs, 0, none⟩ = some v → W'.cell? ⟨Bs, 0, none⟩ = some v
theorem KpB.trans {n₀ Bs : Nat} {A B C : World} (h : KpB n₀ Bs A B) (k : KpB n₀ Bs B C) : KpB n₀ Bs A C := ⟨h.1.trans k.1, fun v e => k.2 v (h.2 v e)⟩

set_option maxRecDepth 100000 in
set_option maxHeartbeats 2000000 in
theorem back1_in (F : Fence) (n : Nat) (h8 : F.fn 154) (hro : F.round = none) (hn : 1 ≤ n) (l Bs n₀ len cap : Nat) (ad : Addr) (zs : List Int) (hreach : len * 8 ≤ 140737488351232) (hb : ad.block < n₀) (J Jx : List (Int × Int) → World → Prop)
    (hY : ∀ pre x W, J pre W → pre.length < len → YieldAt F (n - 1) Try.prog l #[.int .i64 x.1, .int .i64 x.2] W fun e W' =>
      (e = .returned (.bool true) ∧ J (pre ++ [x]) W' ∧ KpB n₀ Bs W W') ∨ (e = .returned (.bool false) ∧ Jx (pre ++ [x]) W'))
    (W : World) (hBs : W.cell? ⟨Bs, 0, none⟩ = some (.slice (some ad) len cap)) (hc : ∀ j, j < len → W.cell? (ad.add j) = some (.int .i64 (zs[j]?.getD 0))) (h0 : J [] W) :
    CallsIn F n Try.prog 154 #[.func (.yield l) #[] #[], .pointer (some ⟨Bs, 0, none⟩)] W fun e W' => (∃ v, e = .returned v) ∧
      ((∃ ys, ys = upto (bk zs len) len ∧ J ys W') ∨ (∃ pre, (∃ k, k ≤ len ∧ pre = upto (bk zs len) k) ∧ Jx pre W')) := by
  refine callsIn_of_wp Try.func154 rfl h8 ?_ hro
  simp only [Try.ntmps154, List.size_toArray, List.length_cons, List.length_nil, Nat.reduceAdd, Nat.reduceSub, Array.replicate_succ, Array.replicate_zero, List.push_toArray, List.append_toArray, List.nil_append, List.cons_append]
  have hw0 : wrap64 ((len : Int) - 1) = (len : Int) - 1 - ((0 : Nat) : Int) := by unfold wrap64; omega
  gi_wp2
  gi_loopw [3] (fun i wr => ∃ k : Nat, k ≤ len ∧ i = .int .i64 ((len : Int) - 1 - (k : Int)) ∧ J (upto (bk zs len) k) wr ∧ KpB n₀ Bs W wr)
    (fun i _ => (intOf i + 1).toNat)
  case atStart => exact ⟨0, Nat.zero_le _, by first | rfl | (simp; done), h0, Below.refl _ _, fun _ h => h⟩
  case round =>
    obtain ⟨k, hk, rfl, hJs, hnx⟩ := hrel
    have hcx : k < len → wr.cell? (ad.add (len - 1 - k)) = some (.int .i64 (zs[len - 1 - k]?.getD 0)) := fun h => (hnx.1.cell (p := ad.add (len - 1 - k)) (show (ad.add (len - 1 - k)).block < n₀ from by rw [add_block]; exact hb)).trans (hc _ (by omega))
    have hbx : wr.cell? ⟨Bs, 0, none⟩ = some (.slice (some ad) len cap) := hnx.2 _ hBs
    by_cases hlt : k < len
    · obtain ⟨fn, tmps, assign, body, hy, hR⟩ := hY _ (bk zs len k) wr hJs (by rw [upto_length]; exact hlt)
      dsimp only [bk] at hy
      have hcx' := hcx hlt
      have hi0 : (0 : Int) ≤ (len : Int) - 1 - (k : Int) := by omega
      have hi1 : (len : Int) - 1 - (k : Int) < (len : Int) := by omega
      have hin : ((len : Int) - 1 - (k : Int)).toNat = len - 1 - k := by omega
      have hw1 : wrap64 ((len : Int) - 1 - (k : Int) - 1) = (len : Int) - 1 - ((k + 1 : Nat) : Int) := by unfold wrap64; omega
      gi_wp2
      refine hR.mono ?_
      rintro e W3 (⟨rfl, hJ3, hk3⟩ | ⟨rfl, hJx3⟩)
      · gi_wp2
        go_roundw
        case rel => exact ⟨k + 1, by omega, by first | rfl | (simp; done) | (simp; omega), by rw [upto_succ]; exact hJ3, hnx.trans hk3⟩
        case measure => simp [intOf]; omega
      · gi_wp2
        refine bodyPost_ret (results_none rfl _ _ _) rfl ?_
        exact ⟨⟨_, rfl⟩, .inr ⟨_, ⟨k + 1, by omega, (upto_succ _ _).symm⟩, hJx3⟩⟩
    · obtain rfl : k = len := by omega
      have hng : ¬ ((0 : Int) ≤ (k : Int) - 1 - (k : Int)) := by omega
      gi_wp2
      go_end0
      first | exact ⟨⟨_, rfl⟩, .inl ⟨_, rfl, hJs⟩⟩ | exact ⟨⟨_, rfl⟩, .inl hJs⟩

set_option maxRecDepth 100000 in
set_option maxHeartbeats 1000000 in
theorem back1_nil_in (F : Fence) (n : Nat) (h8 : F.fn 154) (hro : F.round = none) (l Bs cap : Nat) (A : Option Addr) (J : List (Int × Int) → World → Prop) (W : World) (hBs : W.cell? ⟨Bs, 0, none⟩ = some (.slice A 0 cap)) (h0 : J [] W) :
    CallsIn F n Try.prog 154 #[.func (.yield l) #[] #[], .pointer (some ⟨Bs, 0, none⟩)] W fun e W' => (∃ v, e = .returned v) ∧ J [] W' := by
  refine callsIn_of_wp Try.func154 rfl h8 ?_ hro
  simp only [Try.ntmps154, List.size_toArray, List.length_cons, List.length_nil, Nat.reduceAdd, Nat.reduceSub, Array.replicate_succ, Array.replicate_zero, List.push_toArray, List.append_toArray, List.nil_append, List.cons_append]
  gi_wp2
  gi_loopw [3] (fun i wr => i = .int .i64 (-1) ∧ J [] wr) (fun _ _ => 0)
  case atStart => exact ⟨rfl, h0⟩
  case round =>
    obtain ⟨rfl, hJs⟩ := hrel
    gi_wp2
    go_end0
    exact ⟨⟨_, rfl⟩, hJs⟩

set_option maxHeartbeats 1000000 in
/-- slices.Backward(s): the slice value is boxed; the function value captures the box. -/
theorem back_in (F : Fence) (n : Nat) (h5 : F.fn 145) (hro : F.round = none) (a : Option Addr) (len cap : Nat) (w : World) :
    CallsIn F n Try.prog 145 #[.slice a len cap] w fun e w' => e = .returned (.func (.func 154) #[] #[.pointer (some ⟨w.heap.size, 0, none⟩)]) ∧ w' = w.alloc (.cells #[.slice a len cap] 22) := by
  refine callsIn_of_wp Try.func145 rfl h5 ?_ hro
  simp only [Try.ntmps145, List.size_toArray, List.length_cons, List.length_nil, Nat.reduceAdd, Nat.reduceSub, Array.replicate_succ, Array.replicate_zero, List.push_toArray, List.append_toArray, List.nil_append, List.cons_append]
  gi_wp2
  go_ret
  exact ⟨rfl, rfl⟩
/-- The slice value holds the numbers, in a block below n₀; or there are none. -/
def IntsB (n₀ : Nat) (W : World) (sv : Value) (zs : List Int) : Prop :=
  (zs = [] ∧ ∃ A cap, sv = .slice A 0 cap) ∨ ∃ ad cap, sv = .slice (some ad) zs.length cap ∧ ad.block < n₀ ∧ ∀ j, j < zs.length → W.cell? (ad.add j) = some (.int .i64 (zs[j]?.getD 0))
theorem IntsB.below {n₀ : Nat} {A B : World} (h : Below n₀ A B) {sv : Value} {zs : List Int} : IntsB n₀ A sv zs → IntsB n₀ B sv zs
  | .inl e => .inl e
  | .inr ⟨ad, cap, e, hb, hc⟩ => .inr ⟨ad, cap, e, hb, fun j hj => (h.cell (p := ad.add j) (show (ad.add j).block < n₀ from by rw [add_block]; exact hb)).trans (hc j hj)⟩
/-- A loop over slices.Backward(s) is told of all indices and numbers, from the last one on. -/
theorem back_stops (F : Fence) (n : Nat) (h8 : F.fn 154) (hro : F.round = none) (hn : 1 ≤ n) (Bs n₀ : Nat) (sv : Value) (zs : List Int) (hreach : zs.length * 8 ≤ 140737488351232) (w : World) (hB0 : Bs < w.heap.size) (hn₀ : n₀ ≤ w.heap.size)
    (hc : w.cell? ⟨Bs, 0, none⟩ = some sv) (hI : IntsB n₀ w sv zs) :
    SeqStopsK F n Try.prog 154 #[.pointer (some ⟨Bs, 0, none⟩)] (fun x : Int × Int => #[Value.int .i64 x.1, Value.int .i64 x.2]) (KpB n₀ Bs) (fun ys => ys = upto (bk zs zs.length) zs.length) (fun pre => ∃ k, k ≤ zs.length ∧ pre = upto (bk zs zs.length) k) zs.length w := fun l J Jx W hW _ _ hY h0 => by
  have hc' := (hW.cell (p := ⟨Bs, 0, none⟩) hB0).trans hc
  rcases hI.below (hW.mono hn₀) with ⟨rfl, A, cap, rfl⟩ | ⟨ad, cap, rfl, hb, hcs⟩
  · exact (back1_nil_in F n h8 hro l Bs cap A J W hc' h0).mono fun e W' ⟨he, hj⟩ => ⟨he, .inl ⟨_, rfl, hj⟩⟩
  · exact back1_in F n h8 hro hn l Bs n₀ zs.length cap ad zs hreach hb J Jx hY W hc' hcs h0
/- slices.Clone at []int64: a new row with the same numbers (nil stays nil). -/
def slices_Clone_ints.f (l : List Int) : Option (List Int) := if l.length < 17592186044416 then some l else none

set_option maxHeartbeats 8000000 in
set_option maxRecDepth 100000 in
theorem slices_Clone_ints.calls (A0 : Option Addr) (c0 : Nat) (l0 : List Int) (r : List Int) (w : World) (hr0 : Kd.C (Kd.int .i64) w A0 l0.length l0) (hc0 : l0.length ≤ c0) (h : slices_Clone_ints.f l0 = some r) :
    Calls Try.prog 73 #[.slice A0 l0.length c0] w fun e w' => ∃ v0_ : Value, e = .returned (v0_) ∧ Kd.R (Kd.int .i64) 2 w' w.heap.size (fun _ => True) v0_ r ∧ Below w.heap.size w w' := by
  have hnil : ∀ (W : World) (a : Option Addr) (n c : Nat), (Go.binOp .eql 22 (.slice a n c) (.slice none 0 0)).run Try.prog W = .ok (.bool a.isNone) W := fun W a n c => Lib.run_eql_slice_nil W 22 2 a n c 0 0 Try.underlying22
  unfold slices_Clone_ints.f at h
  split at h
  case isFalse => cases h
  rename_i c2
  obtain rfl := Option.some.inj h
  clear h
  have HR0 := Aside0.mk hr0
  have HC0 := Aside0.mk hc0
  clear hr0 hc0
  have HB := Aside0.mk (Below.refl w.heap.size w)
  have LMc2 := Aside0.mk c2
  clear c2
  cases A0 with
  | none =>
    have hl : l0 = [] := by
      rcases l0 with _ | ⟨x, l⟩
      · rfl
      · obtain ⟨ad, e, _⟩ := Kd.at_int HR0.out 0 (by omega) (by simp only [List.length_cons]; omega)
        cases e
    subst hl
    go_enter Try.func73, Try.ntmps73
    go_wp2
    go_ret
    exact ⟨_, rfl, Kd.R_nil _ _ _ _ _, HB.out⟩
  | some ad0 =>
    obtain ⟨y385, hy385⟩ : ∃ y_ : List Int, y_ = (([] : List Int)) := ⟨_, rfl⟩
    have Ny385 := Aside0.mk hy385
    clear hy385
    obtain ⟨y388, hy388⟩ : ∃ y_ : List Int, y_ = (y385 ++ l0) := ⟨_, rfl⟩
    have Ny388 := Aside0.mk hy388
    clear hy388
    go_enter Try.func73, Try.ntmps73
    go_wp2_with (first | ((with_reducible refine gate_dst (N := 5) rfl ?_); refine Kd.R_lit (Kd.int .i64) _ 2 ?hg (N := 5) ?hd (xs := ([] : List Int)) (inner := []) (ok := fun _ => True) (okp := fun _ => True) ?hr ?hp (fun _ hk => hk) trivial (Below.refl _ _) (Nat.le_refl _) (by simp) ?_; (case hd => rfl); (case hg => rfl); (case hr => first | (go_simp; done) | (go_simp; rfl)); (case hp => exact (Reps.none _ _)); intro v386 w3 ho4 hb hg_ hnew_; clear hg_ hnew_; (first | rw [← Ny385.out] at ho4 | (simp only [Int.reduceToNat] at ho4; rw [← Ny385.out] at ho4)); have n0_ := Aside0.mk (Kd.R_lower ho4 (below_size (by repeat (first | (with_reducible first | exact HB.out | apply below_alloc | apply pw_below_drewN | apply below_drew1) | exact HB.out)))); have n1_ := Aside0.mk (below_step (by repeat (first | (with_reducible first | exact HB.out | apply below_alloc | apply pw_below_drewN | apply below_drew1) | exact HB.out)) hb); clear HB; have HO387 := n0_; have HB := n1_; clear n0_ n1_; clear hb ho4) | ((with_reducible refine gate_builtin (b := .append) (xs := #[.tmp 5, .tmp 6]) rfl ?_); at_builtin; refine Kd.R_append_rows (Kd.int .i64) (w0 := w) w.heap.size rfl (.tmp 5) (.tmp 6) 22 2 (.int .i64 0) 8 rfl Try.underlying22 info2 rfl (by decide) (by omega) v386 y385 l0 _ _ _ (fun _ => True) (fun _ => False) rfl rfl ?aO ?aR (fun _ _ h => h) (fun _ h => h.elim) ?aF ?aB ?aS ?aL ?_; (case aR => repeat (first | exact (Kd.C_below HR0.out HB.out) | (with_reducible refine Kd.C_alloc ?_ _) | (with_reducible refine Kd.C_drewN ?_ _) | (with_reducible refine Kd.C_drew ?_))); (case aB => exact (by repeat (first | (with_reducible first | exact HB.out | apply below_alloc | apply pw_below_drewN | apply below_drew1) | exact HB.out))); (case aF => exact (fun _ _ => trivial)); (case aO => exact (by (with_reducible repeat (first | apply Kd.R_alloc | apply Kd.R_drewN | apply Kd.R_drew)); exact HO387.out)); (case aS => exact (below_size (by repeat (first | (with_reducible first | exact HB.out | apply below_alloc | apply pw_below_drewN | apply below_drew1) | exact HB.out)))); (case aL => have := LMc2.out; have e := Ny385.out; rw [e]; simp; omega); intro v389 w5 ho hb hg hat; rw [← Ny388.out] at ho; have n0_ := Aside0.mk (hb); have n1_ := Aside0.mk (ho); clear HB; clear HO387; have HB := n0_; have HO390 := n1_; clear n0_ n1_; clear ho hb hg hat))
    go_ret
    have e : l0 = y388 := by rw [Ny388.out, Ny385.out]; rfl
    rw [e]
    exact ⟨_, rfl, by (with_reducible repeat (first | apply Kd.R_alloc | apply Kd.R_drewN | apply Kd.R_drew)); exact HO390.out, by repeat (first | (with_reducible first | exact HB.out | apply below_alloc | apply pw_below_drewN | apply below_drew1) | exact HB.out)⟩
/- An element of a row of rows that is the call's own is the call's own; no condition. -/
theorem new_le {v : Value} {n : Nat} (h : ∃ b, v.ownBlock = some b ∧ n ≤ b) : ∀ k, v.ownBlock = some k → n ≤ k := fun k e => by
  obtain ⟨b, h1, h2⟩ := h
  rw [h1] at e
  cases e
  exact h2
theorem R_rowsM {α : Type} {d : Kd α} {e base : Nat} {ok : Nat → Prop} {W : World} {A : Option Addr} {m c : Nat} {ys : List α} (h : d.R e W base ok (.slice A m c) ys) : ReadsRow (d.M W base ok) d.sz W A m ys := by
  obtain ⟨A', c', hv, _, hr⟩ := h.2.reads
  cases hv
  exact ReadsRow.imp_ hr (Below.refl _ _) (fun _ _ hp => d.M_mono (fun k hk => hk.1) hp)
theorem R_afterv {α : Type} {d : Kd α} {e base : Nat} {ok : Nat → Prop} {W w1 : World} {u v v1 : Value} {xs : List α} (h : d.R e W base (fun k => ok k ∧ some k ≠ v.ownBlock) u xs) (hg : W.grownBy w1 v.ownBlock) (hat : v1.ownBlock = v.ownBlock ∨ ∃ b, v1.ownBlock = some b ∧ W.heap.size ≤ b) : d.R e w1 base (fun k => ok k ∧ some k ≠ v1.ownBlock) u xs := by
  refine Kd.R_mono (Kd.R_step (Kd.R_bound h) (fun k hk hlt => hg.block k hlt hk.1.2)) (fun k hk => ⟨hk.1.1, ?_⟩)
  rcases hat with hat | ⟨b, hb, hle⟩
  · rw [hat]; exact hk.1.2
  · rw [hb]
    intro e_
    cases e_
    have := hk.2.2.1
    omega
theorem R_elemA {e e' base : Nat} {ok : Nat → Prop} {W : World} {ad : Addr} {n cap : Nat} {xs : List (List Int)} (h : Kd.R (Kd.slice e' (Kd.int .i64)) e W base ok (.slice (some ad) n cap) xs) (i : Int) (h0 : 0 ≤ i) (h1 : i < (n : Int))
    {A : Option Addr} {m c : Nat} (hc : W.cell? (ad.add i.toNat) = some (.slice A m c)) : Kd.R (Kd.int .i64) e' W base ok (.slice A m c) (rd_L1 xs i) := by
  have hown := h.2
  obtain ⟨inner, ho, _⟩ := hown
  obtain ⟨_, ho⟩ := ho
  rcases ho with ⟨hv, _⟩ | ⟨g, cp, cur, hv, hg, hh, r⟩
  · cases hv
  · injection hv with e1 e2 e3
    injection e1 with e1
    subst e1
    obtain ⟨cs, hl, hM, hcell, _⟩ := Kd.R_elem h [] i h0 h1
    obtain ⟨v, rfl, hR⟩ := hM
    have h2 := hcell 0 v rfl
    have h3 : W.cell? ⟨g, i.toNat * 1 + 0, none⟩ = some v := h2
    have h4 : (⟨g, i.toNat * 1 + 0, none⟩ : Addr) = (⟨g, 0, none⟩ : Addr).add i.toNat := by simp [Addr.add]
    rw [h4, hc] at h3
    cases h3
    exact Kd.R_mono hR (fun _ hk => hk.1)
/- Short steps of a walk through a region whose order is drawn (each stands for a row that the print spells out); no condition. -/
/-- The lowest n bits of m. -/
def bq : Nat → Nat → List Bool
  | 0, _ => []
  | n + 1, m => (m % 2 == 1) :: bq n (m / 2)
def bl (n m : Nat) : Array Bool := ⟨bq n m⟩
section
variable {P : Program} {ops : Array Oper} {Q : Exit → Act → World → Prop} {S : World → Prop} {ds : List Nat} {T : Bool × List (List Nat × List Nat)} {B : List Nat} {fuel : Nat} {l : Array Bool} {a a' : Act} {w : World} {oi : Oper} {v : Value}
theorem pu_ (i : Nat) (N : Tmp) (l' : Array Bool) (HT : Aside0 (rtab .any ops = T)) (h : wpAnyLast P .any ops Q S ds fuel l' a' w)
    (hi : ops[i]? = some oi := by rfl) (hN : oi.dst = some N := by rfl) (hc : anyT T l.toList l'.toList i = true := by kernel_rfl)
    (hQ : ∀ c a w, Q (.panic c) (a.put oi.dst v) w → Q (.panic c) a w := by exact fun _ _ _ h => h)
    (hy : Yields P ops oi v a := by exact Or.inl ⟨by rfl, by intro w'; go_simp; with_reducible rfl⟩)
    (ha : a.put (some N) v = a' := by (simp only [Act.put, ls, lz, ln, i64_w, i32_w]; rfl)) : wpAnyLast P .any ops Q S ds (fuel + 1) l a w :=
  pure_ l' hi hN (any_of HT.out hc) hQ hy ha h
theorem un_ (i : Nat) (N : Tmp) (l' : Array Bool) (HT : Aside0 (rtab .any ops = T)) (h : wpAnyLast P .any ops Q S ds fuel l' a' w)
    (hi : ops[i]? = some oi := by rfl) (hN : oi.dst = some N := by rfl) (hc : anyT T l.toList l'.toList i = true := by kernel_rfl)
    (hQ : ∀ c a w, Q (.panic c) (a.put oi.dst undef) w → Q (.panic c) a w := by exact fun _ _ _ h => h)
    (hy : Yields P ops oi undef a := by exact Or.inr ⟨by rfl, rfl⟩)
    (ha : a.put (some N) undef = a' := by (simp only [Act.put, ls, lz, ln, i64_w, i32_w]; rfl)) : wpAnyLast P .any ops Q S ds (fuel + 1) l a w :=
  pure_ l' hi hN (any_of HT.out hc) hQ hy ha h
theorem ta_ (i : Nat) (N : Tmp) (l' : Array Bool) (HT : Aside0 (rtab .any ops = T)) (HW : Aside0 (waitsOk T.2 B = true)) (hS : S w) (h : wpAnyLast P .any ops Q S ds fuel l' a' w)
    (hi : ops[i]? = some oi := by rfl) (hN : oi.dst = some N := by rfl) (hc : takeW T B ds l.toList l'.toList i = true := by kernel_rfl)
    (hQ : ∀ c a w, Q (.panic c) (a.put oi.dst v) w → Q (.panic c) a w := by exact fun _ _ _ h => h)
    (hy : YieldsIf P ops S oi v a := by exact Or.inl ⟨by rfl, by intro w' hs; go_simp; with_reducible rfl⟩)
    (ha : a.put (some N) v = a' := by (simp only [Act.put, ls, lz, ln, i64_w, i32_w]; rfl)) : wpAnyLast P .any ops Q S ds (fuel + 1) l a w :=
  take_ l' hi hN (take_ofW HT.out HW.out hc) hQ hy hS ha h
theorem on_ (i : Nat) (N : Option Tmp) (l' : Array Bool) (HT : Aside0 (rtab .any ops = T))
    (h : ∀ K : Act → World → Prop, Shut (∀ a' w', S w' → (S w' → wpAnyLast P .any ops Q S ds fuel l' a' w') → K a' w') → if Region.wanted oi (yielded ops a.tmps) = true then Oper.wp P oi a w K Q else K (a.put N undef) w)
    (hi : ops[i]? = some oi := by rfl) (hN : oi.dst = N := by rfl) (hc : (readyT T.2 l.toList == [i] && l.toList.set i true == l'.toList) = true := by kernel_rfl) (hd : i ∉ ds := by decide) : wpAnyLast P .any ops Q S ds (fuel + 1) l a w :=
  one_ l' hi hN (one_of HT.out hc) hd h
theorem no_ {a0 : Act} (N : Tmp) (h : wpAnyLast P .any ops Q S ds fuel l a' w) (ha : a0.put (some N) v = a' := by (simp only [Act.put, ls, lz, ln, i64_w, i32_w]; rfl)) : wpAnyLast P .any ops Q S ds fuel l (a0.put (some N) v) w := norm_ ha h
end
/- One more short step: what is read at the world where it comes up; no condition. -/
section
variable {P : Program} {ops : Array Oper} {Q : Exit → Act → World → Prop} {S : World → Prop} {ds : List Nat} {T : Bool × List (List Nat × List Nat)} {fuel : Nat} {l : Array Bool} {a a' : Act} {w : World} {oi : Oper} {v : Value}
theorem lo_ (i : Nat) (N : Tmp) (l' : Array Bool) (HT : Aside0 (rtab .any ops = T)) (hS : S w) (h : wpAnyLast P .any ops Q S ds fuel l' a' w)
    (hi : ops[i]? = some oi := by rfl) (hN : oi.dst = some N := by rfl) (hc : (readyT T.2 l.toList == [i] && l.toList.set i true == l'.toList) = true := by kernel_rfl) (hd : i ∉ ds := by decide)
    (hw : Region.wanted oi (yielded ops a.tmps) = true := by rfl) (hrun : (execOp a.eval oi).run P w = .ok (.value v) w := by (go_simp; with_reducible rfl))
    (ha : a.put (some N) v = a' := by (simp only [Act.put, ls, lz, ln, i64_w, i32_w]; rfl)) : wpAnyLast P .any ops Q S ds (fuel + 1) l a w := by
  subst ha
  exact one_ l' hi hN (one_of HT.out hc) hd (fun K hK => value_ hw hN hrun (hK.out _ _ hS (fun _ => h)))
end
instance Up.setDrewN2 (w0 w : World) (n : Nat) (a b : Addr) (v u : Value) [q : Up w0 ((w.setCell a v).setCell b u)] : Up w0 (((w.drewN n).setCell a v).setCell b u) := ⟨⟨q.up.os, q.up.tape, q.up.output, q.up.size, q.up.block⟩⟩
instance Up.setDrewN3 (w0 w : World) (n : Nat) (a b c : Addr) (v u x : Value) [q : Up w0 (((w.setCell a v).setCell b u).setCell c x)] : Up w0 ((((w.drewN n).setCell a v).setCell b u).setCell c x) := ⟨⟨q.up.os, q.up.tape, q.up.output, q.up.size, q.up.block⟩⟩
/- More short forms of what the printed walks spell out; no condition. -/
/-- The block k is not the row v's own. -/
abbrev ax (k : Nat) (v : Value) : Prop := some k ≠ v.ownBlock
theorem bc {w : World} {g : Nat} {t : TypeId} {cs : Array Value} (h : Aside0 (w.heap[g]? = some (.cells cs t (0, 0)))) (i : Nat) {v : Value} (hv : cs[i]? = some v := by rfl) : w.cell? ⟨g, i, none⟩ = some v := (blk_cell h.out i).trans hv
theorem bcu {w0 w : World} {g : Nat} {t : TypeId} {cs : Array Value} (h : Aside0 (w0.heap[g]? = some (.cells cs t (0, 0)))) (i : Nat) {v : Value} [u : Up w0 w] (hv : cs[i]? = some v := by rfl) : w.cell? ⟨g, i, none⟩ = some v := (blk_cell (uB h.out) i).trans hv
theorem bf {w : World} {g : Nat} {t : TypeId} {cs : Array Value} (h : Aside0 (w.heap[g]? = some (.cells cs t (0, 0)))) (i : Nat) : w.frozen? ⟨g, i, none⟩ = false := blk_frozen h.out i
theorem gq {b w w0 : World} {g : Nat} (HB : Aside0 (Below b.heap.size b w0)) (hg : g = w.heap.size) [u : UpS b.heap.size w0 w] : Aside0 (b.heap.size ≤ g) := ⟨by rw [hg]; exact below_size (u.up rfl HB.out)⟩
theorem hc {b w : World} {p : Addr} {v : Value} (HB : Aside0 (Below b.heap.size b w)) (h : b.cell? p = some v) : w.cell? p = some v := (HB.out.cell (World.block_lt_of_cell? b p h)).trans h
theorem hcu {b w0 w : World} {p : Addr} {v : Value} (HB : Aside0 (Below b.heap.size b w0)) (h : b.cell? p = some v) [u : UpS b.heap.size w0 w] : w.cell? p = some v := ((u.up rfl HB.out).cell (World.block_lt_of_cell? b p h)).trans h
section
variable {P : Program} {ops : Array Oper} {Q : Exit → Act → World → Prop} {rest : List Oper} {oi : Oper} {a : Act} {w : World} {f : FuncId} {fn : Func} {az : Array Operand} {ts : Array TypeId}
theorem gL (N : Option Tmp) (hf : P.funcs[f]? = some fn) (args : Array Value) (h : Calls P f args w fun e w' => ∃ v, e = .returned v ∧ wpList P ops Q rest (a.put N v) w')
    (hd : oi.dst = N := by rfl) (hg : oi.guard = none := by rfl) (hname : (fn.name == "runtime.NumGoroutine") = false := by kernel_rfl) (hb : fn.body.isSome = true := by rfl)
    (hop : oi.op = .call { callee := .value (.func f), args := az, argTypes := ts } := by rfl) (hargs : az.map a.eval = args := by ((try simp only [la, lb, lc]); first | done | rfl | (simp only [ld, le]; rfl))) : wpList P ops Q (oi :: rest) a w :=
  goesL_ N hd hg hf hname hb args hop hargs h
theorem bx (N : Tmp) (cs : Array Value) (t : TypeId) (h : ∀ g, g = w.heap.size → ∀ w1, w1.heap[g]? = some (.cells cs t (0, 0)) → Below w.heap.size w w1 → wpList P ops Q rest (a.put oi.dst (.pointer (some ⟨g, 0, none⟩))) w1)
    (hd : oi.dst = some N := by rfl) (hg : oi.guard = none := by rfl)
    (hr : (execOp a.eval oi).run P w = .ok (.value (.pointer (some ⟨w.heap.size, 0, none⟩))) (w.alloc (.cells cs t (0, 0))) := by first | (go_simp; done) | (go_simp; rfl)) : wpList P ops Q (oi :: rest) a w :=
  box_event hg hd hr h
theorem sT {id n : Nat} {S : World → Prop} (hm : P.follows .mixedOrders = true) (hS : S w.drew) (h : S w.drew → wpAnyLast P .any ops Q S [] n (bl n 0) a w.drew)
    (hn : ops.size = n := by rfl) (hl : Array.replicate n false = bl n 0 := by kernel_rfl) : (Code.region id ops true).wp P Q a w := start_ (bl n 0) hm hn hl hS h
theorem gS {N : Option Tmp} {K : Act → World → Prop} (hf : P.funcs[f]? = some fn) (args : Array Value) (h : Calls P f args w fun e w' => ∃ v, e = .returned v ∧ K (a.put N v) w')
    (hname : (fn.name == "runtime.NumGoroutine") = false := by kernel_rfl) (hb : fn.body.isSome = true := by rfl) (hw : Region.wanted oi (yielded ops a.tmps) = true := by rfl) (hN : oi.dst = N := by rfl)
    (hop : oi.op = .call { callee := .value (.func f), args := az, argTypes := ts } := by rfl) (hargs : az.map a.eval = args := by ((try simp only [la, lb, lc]); first | done | rfl | (simp only [ld, le]; rfl))) : if Region.wanted oi (yielded ops a.tmps) = true then Oper.wp P oi a w K Q else K (a.put N undef) w :=
  goes_ hf hname hb args hw hN hop hargs h
end
/-- One step back: a new block, or drawn numbers. -/
class Up1 (w : outParam World) (w1 : World) : Prop where
  up : Below w.heap.size w w1
instance Up1.alloc (w : World) (o : Obj) : Up1 w (w.alloc o) := ⟨below_alloc (Below.refl _ _) o⟩
instance Up1.drew (w : World) : Up1 w w.drew := ⟨below_drew1 (Below.refl _ _)⟩
instance Up1.drewN (w : World) (n : Nat) : Up1 w (w.drewN n) := ⟨pw_below_drewN (Below.refl _ _) n⟩
theorem up1 {w w1 : World} {g : Nat} {o : Obj} [u : Up1 w w1] (h : w.heap[g]? = some o) : w1.heap[g]? = some o := blk_below h u.up
section
variable {α : Type} {d : Kd α} {e base g t : Nat} {ok : Nat → Prop} {w : World} {v : Value} {xs : List α} {cells : Array Value}
/-- A row stays where the cells of a block of another type are set. -/
theorem rf2 (h : Aside0 (d.R e w base ok v xs)) (hb : Aside0 (w.heap[g]? = some (.cells cells t (0, 0)))) (ht : ∀ q, q ∈ e :: d.E → q ≠ t) (a b : Value) : d.R e ((w.setCell ⟨g, 0, none⟩ a).setCell ⟨g, 1, none⟩ b) base ok v xs :=
  Kd.R_mono (Kd.R_far (p := ⟨g, 1, none⟩) (Kd.R_far (p := ⟨g, 0, none⟩) (Kd.R_types h.out hb.out ht) (fun _ hk => hk.2) a) (fun _ hk => hk.2) b) (fun _ hk => hk.1)
theorem rf3 (h : Aside0 (d.R e w base ok v xs)) (hb : Aside0 (w.heap[g]? = some (.cells cells t (0, 0)))) (ht : ∀ q, q ∈ e :: d.E → q ≠ t) (a b c : Value) : d.R e (((w.setCell ⟨g, 0, none⟩ a).setCell ⟨g, 1, none⟩ b).setCell ⟨g, 2, none⟩ c) base ok v xs :=
  Kd.R_mono (Kd.R_far (p := ⟨g, 2, none⟩) (Kd.R_far (p := ⟨g, 1, none⟩) (Kd.R_far (p := ⟨g, 0, none⟩) (Kd.R_types h.out hb.out ht) (fun _ hk => hk.2) a) (fun _ hk => hk.2) b) (fun _ hk => hk.2) c) (fun _ hk => hk.1)
end
/-! ### impl_Jacobi_field: function 79 -/
def impl_Jacobi_field.f (a0_0 : Int) (l0_1 : List Int) (l0_2 : List Int) : Option (Int) := some a0_0
set_option maxHeartbeats 8000000 in
set_option maxRecDepth 100000 in
theorem impl_Jacobi_field.calls (a0_0 : Int) (A0_1 : Option Addr) (c0_1 : Nat) (l0_1 : List Int) (A0_2 : Option Addr) (c0_2 : Nat) (l0_2 : List Int) (r : Int) (w : World) (hr0_1 : Kd.C (Kd.int .i64) w A0_1 l0_1.length l0_1) (hc0_1 : l0_1.length ≤ c0_1) (hr0_2 : Kd.C (Kd.int .i64) w A0_2 l0_2.length l0_2) (hc0_2 : l0_2.length ≤ c0_2) (h : impl_Jacobi_field.f a0_0 l0_1 l0_2 = some r) :
  Calls Try.prog 79 #[.agg #[.int .i64 a0_0, .slice A0_1 l0_1.length c0_1, .slice A0_2 l0_2.length c0_2]] w fun e w' => e = .returned (.int .i64 r) ∧ Below w.heap.size w w' := by
 have hu26 := Try.underlying26
 have HR0_1 := zA hr0_1
 have HC0_1 := zA hc0_1
 clear hr0_1 hc0_1
 have HR0_2 := zA hr0_2
 have HC0_2 := zA hc0_2
 clear hr0_2 hc0_2
 have HB := zA (Below.refl w.heap.size w)
 have H : (some a0_0) = some r := h
 clear h
 obtain rfl := Option.some.inj H
 go_enter Try.func79, Try.ntmps79
 go_wp2_with (first | ((with_reducible refine gate_dst (N := 1) rfl ?_); refine bx 1 #[.int .i64 a0_0, .slice A0_1 l0_1.length c0_1, .slice A0_2 l0_2.length c0_2] 26 ?_; intro gb1097 hg w2 hbox hb; have BK1097 := zA (hbox); have GW1097 := gq HB hg; have GE1097 := gq HB hg; replace HB := xH HB hb; have := geI GE1097; clear hb hbox hg; have hcz3_0 := bc BK1097 0; have hcz3_1 := bc BK1097 1; have hcz3_2 := bc BK1097 2; have hfz3_0 := bf BK1097 0; have hfz3_1 := bf BK1097 1; have hfz3_2 := bf BK1097 2))
 go_ret
 exact ⟨by first | rfl | (simp [errW_none, errW_some] <;> rfl) | (simp [*, errW_none, errW_some] <;> rfl), uH HB.out⟩
/-! ### impl_Jacobi_size: function 59 -/
def impl_Jacobi_size.f (a0_0 : Int) (l0_1 : List Int) (l0_2 : List Int) : Option (Int) := (impl_length_int64.f l0_1).bind fun t1096 => (some t1096)
set_option maxHeartbeats 8000000 in
set_option maxRecDepth 100000 in
theorem impl_Jacobi_size.calls (a0_0 : Int) (A0_1 : Option Addr) (c0_1 : Nat) (l0_1 : List Int) (A0_2 : Option Addr) (c0_2 : Nat) (l0_2 : List Int) (r : Int) (w : World) (hr0_1 : Kd.C (Kd.int .i64) w A0_1 l0_1.length l0_1) (hc0_1 : l0_1.length ≤ c0_1) (hr0_2 : Kd.C (Kd.int .i64) w A0_2 l0_2.length l0_2) (hc0_2 : l0_2.length ≤ c0_2) (h : impl_Jacobi_size.f a0_0 l0_1 l0_2 = some r) :
  Calls Try.prog 59 #[.agg #[.int .i64 a0_0, .slice A0_1 l0_1.length c0_1, .slice A0_2 l0_2.length c0_2]] w fun e w' => e = .returned (.int .i64 r) ∧ Below w.heap.size w w' := by
 have hu26 := Try.underlying26
 have HR0_1 := zA hr0_1
 have HC0_1 := zA hc0_1
 clear hr0_1 hc0_1
 have HR0_2 := zA hr0_2
 have HC0_2 := zA hc0_2
 clear hr0_2 hc0_2
 have HB := zA (Below.refl w.heap.size w)
 have H : ((impl_length_int64.f l0_1).bind fun t1096 => (some t1096)) = some r := h
 clear h
 replace H := Option.bind_eq_some_iff.mp H
 obtain ⟨t1096, A20, H⟩ := H
 replace H : (some t1096) = some r := H
 have A2 := zA A20
 clear A20
 obtain rfl := Option.some.inj H
 go_enter Try.func59, Try.ntmps59
 go_wp2_with (first | ((with_reducible refine gate_dst (N := 1) rfl ?_); refine bx 1 #[.int .i64 a0_0, .slice A0_1 l0_1.length c0_1, .slice A0_2 l0_2.length c0_2] 26 ?_; intro gb1095 hg w3 hbox hb; have BK1095 := zA (hbox); have GW1095 := gq HB hg; have GE1095 := gq HB hg; replace HB := xH HB hb; have := geI GE1095; clear hb hbox hg; have hcz4_0 := bc BK1095 0; have hcz4_1 := bc BK1095 1; have hcz4_2 := bc BK1095 2; have hfz4_0 := bf BK1095 0; have hfz4_1 := bf BK1095 1; have hfz4_2 := bf BK1095 2) | ((with_reducible refine gate_callee (f := 71) rfl ?_); refine gL (some 5) Try.func71 #[.slice A0_1 l0_1.length c0_1] ?_; (with_reducible refine (impl_length_int64.calls _ _ l0_1 t1096 _ ?side1 ?side2 A2.out).mono ?_); (case side1 => exact uC ((Kd.C_below HR0_1.out HB.out))); (case side2 => exact HC0_1.out); rintro e w' ⟨rfl, ⟨nd, rfl⟩⟩; refine ⟨_, rfl, ?_⟩))
 go_ret
 exact ⟨by first | rfl | (simp [errW_none, errW_some] <;> rfl) | (simp [*, errW_none, errW_some] <;> rfl), uH HB.out⟩
/-! ### impl_areAll_int64_1: function 141 -/
def impl_areAll_int64_1.f (a0 : Int) (a1_0 : (Int → Option Bool)) : Option (Bool) := (a1_0 a0).bind fun t231 => (some (!t231))
set_option maxHeartbeats 8000000 in
set_option maxRecDepth 100000 in
theorem impl_areAll_int64_1.calls (a0 : Int) (gc1 : Nat) (F1_0 : Value) (a1_0 : (Int → Option Bool)) (r : Bool) (w : World) (hb1 : w.heap[gc1]? = some (.cells #[F1_0] 104 (0, 0))) (hF1_0 : FnI Try.prog w F1_0 a1_0) (h : impl_areAll_int64_1.f a0 a1_0 = some r) :
  Calls Try.prog 141 #[.int .i64 a0, .pointer (some ⟨gc1, 0, none⟩)] w fun e w' => e = .returned (.bool r) ∧ Below w.heap.size w w' := by
 obtain ⟨G1_0, fi1_0, ca1_0, rfl, hen1_0, hF1_0⟩ := hF1_0
 have hen1_0 : ∀ (args_ : Array Value) (w_ : World), (callFunc G1_0 args_).run Try.prog w_ = .ok (.enter G1_0 args_) w_ := hen1_0
 have HF1_0 := zA hF1_0
 clear hF1_0
 have BK1 := zA hb1
 clear hb1
 have HB := zA (Below.refl w.heap.size w)
 have H : ((a1_0 a0).bind fun t231 => (some (!t231))) = some r := h
 clear h
 replace H := Option.bind_eq_some_iff.mp H
 obtain ⟨t231, A30, H⟩ := H
 replace H : (some (!t231)) = some r := H
 have A3 := zA A30
 clear A30
 obtain rfl := Option.some.inj H
 have hcz4_0 := bc BK1 0
 have hfz4_0 := bf BK1 0
 go_enter Try.func141, Try.ntmps141
 go_wp2_with (first | (go_at_fn G1_0; refine calls_of_args (args' := fi1_0 ++ #[.int .i64 a0] ++ ca1_0) (by simp) ?_; refine (HF1_0.out a0 _ A3.out _ (uH HB.out)).mono ?_; rintro e w5 ⟨rfl, hb⟩; replace BK1 := xB BK1 hb; replace HB := xH HB hb; (try clear hb)))
 go_ret
 exact ⟨by first | rfl | (simp [errW_none, errW_some] <;> rfl) | (simp [*, errW_none, errW_some] <;> rfl), uH HB.out⟩
/-! ### impl_field_has: function 99 -/
def impl_field_has.f (a0 : Int) (a1 : Int) : Option (Bool) := if a1 ≥ 0 then (some (decide (a1 < a0))) else (some false)
set_option maxHeartbeats 8000000 in
set_option maxRecDepth 100000 in
theorem impl_field_has.calls (a0 : Int) (a1 : Int) (r : Bool) (w : World) (h : impl_field_has.f a0 a1 = some r) :
  Calls Try.prog 99 #[.int .i64 a0, .int .i64 a1] w fun e w' => e = .returned (.bool r) ∧ Drawn0 w w' := by
 have H : (if a1 ≥ 0 then (some (decide (a1 < a0))) else (some false)) = some r := h
 clear h
 by_cases c3 : a1 ≥ 0
 rotate_left
 ·rw [if_neg c3] at H
  have c3b0 : decide (0 ≤ a1) = false := decide_eq_false c3
  clear c3
  obtain rfl := Option.some.inj H
  go_enter Try.func99, Try.ntmps99
  go_wp2
  go_ret
  exact ⟨by first | rfl | (simp; done) | (simp [*]; done), by repeat (first | exact Drawn0.refl _ | apply Drawn0.step)⟩

 rw [if_pos c3] at H
 have c3b0 : decide (0 ≤ a1) = true := decide_eq_true c3
 clear c3
 obtain rfl := Option.some.inj H
 go_enter Try.func99, Try.ntmps99
 go_wp2
 go_ret
 exact ⟨by first | rfl | (simp; done) | (simp [*]; done), by repeat (first | exact Drawn0.refl _ | apply Drawn0.step)⟩
/-! ### impl_field_mod: function 122 -/
def impl_field_mod.f (a0 : Int) (a1 : Int) : Option (Int) := if a0 = 0 then (none) else (some (Int.tmod (wrap64 ((Int.tmod a1 a0) + a0)) a0))
set_option maxHeartbeats 8000000 in
set_option maxRecDepth 100000 in
theorem impl_field_mod.calls (a0 : Int) (a1 : Int) (r : Int) (w : World) (h : impl_field_mod.f a0 a1 = some r) :
  Calls Try.prog 122 #[.int .i64 a0, .int .i64 a1] w fun e w' => e = .returned (.int .i64 r) ∧ Drawn0 w w' := by
 have H : (if a0 = 0 then (none) else (some (Int.tmod (wrap64 ((Int.tmod a1 a0) + a0)) a0))) = some r := h
 clear h
 by_cases c3 : a0 = 0
 rotate_left
 ·rw [if_neg c3] at H
  have c3b0 : (a0 == 0) = false := beq_eq_false_iff_ne.mpr c3
  have c3b1 : (a0 != 0) = true := bne_iff_ne.mpr c3
  obtain rfl := Option.some.inj H
  go_enter Try.func122, Try.ntmps122
  go_wp2
  go_ret
  exact ⟨by first | rfl | (simp; done) | (simp [*]; done), by repeat (first | exact Drawn0.refl _ | apply Drawn0.step)⟩

 rw [if_pos c3] at H
 exact absurd H (by simp)
/-! ### impl_field_mul: function 131 -/
def impl_field_mul.f (a0 : Int) (a1 : Int) (a2 : Int) : Option (Int) := (impl_field_mod.f a0 (wrap64 (a1 * a2))).bind fun t280 => (some t280)
set_option maxHeartbeats 8000000 in
set_option maxRecDepth 100000 in
theorem impl_field_mul.calls (a0 : Int) (a1 : Int) (a2 : Int) (r : Int) (w : World) (h : impl_field_mul.f a0 a1 a2 = some r) :
  Calls Try.prog 131 #[.int .i64 a0, .int .i64 a1, .int .i64 a2] w fun e w' => e = .returned (.int .i64 r) ∧ Drawn0 w w' := by
 have H : ((impl_field_mod.f a0 (wrap64 (a1 * a2))).bind fun t280 => (some t280)) = some r := h
 clear h
 replace H := Option.bind_eq_some_iff.mp H
 obtain ⟨t280, A40, H⟩ := H
 replace H : (some t280) = some r := H
 have A4 := zA A40
 clear A40
 obtain rfl := Option.some.inj H
 go_enter Try.func131, Try.ntmps131
 go_wp2_with (first | ((with_reducible refine gate_callee (f := 122) rfl ?_); refine gL (some 11) Try.func122 #[.int .i64 a0, .int .i64 (wrap64 (a1 * a2))] ?_; (with_reducible refine (impl_field_mod.calls a0 (wrap64 (a1 * a2)) t280 _ A4.out).mono ?_); rintro e w' ⟨rfl, ⟨nd, rfl⟩⟩; refine ⟨_, rfl, ?_⟩))
 go_ret
 exact ⟨by first | rfl | (simp; done) | (simp [*]; done), by repeat (first | exact Drawn0.refl _ | apply Drawn0.step)⟩
/-! ### impl_field_power: function 150 -/
def impl_field_power.l0 : Nat → Int → Int → Int → Int → Option (Int)
 | 0, _, _, _, _ => none
 | k + 1, x0, x1, x2, x7 => if x2 > 0 then (if (Int.tmod x2 2) = 1 then ((impl_field_mul.f x0 x7 x1).bind fun t282 => ((impl_field_mul.f x0 x1 x1).bind fun t283 => (impl_field_power.l0 k x0 t283 (wrap64 (Int.tdiv x2 2)) t282))) else ((impl_field_mul.f x0 x1 x1).bind fun t284 => (impl_field_power.l0 k x0 t284 (wrap64 (Int.tdiv x2 2)) x7))) else (some x7)
def impl_field_power.f (k : Nat) (a0 : Int) (a1 : Int) (a2 : Int) : Option (Int) := (impl_field_mod.f a0 1).bind fun t281 => (impl_field_power.l0 k a0 a1 a2 t281)
set_option maxHeartbeats 8000000 in
set_option maxRecDepth 100000 in
theorem impl_field_power.calls (k : Nat) (a0 : Int) (a1 : Int) (a2 : Int) (r : Int) (w : World) (h : impl_field_power.f k a0 a1 a2 = some r) :
  Calls Try.prog 150 #[.int .i64 a0, .int .i64 a1, .int .i64 a2] w fun e w' => e = .returned (.int .i64 r) ∧ Drawn0 w w' := by
 have H : ((impl_field_mod.f a0 1).bind fun t281 => (impl_field_power.l0 k a0 a1 a2 t281)) = some r := h
 clear h
 replace H := Option.bind_eq_some_iff.mp H
 obtain ⟨t281, A40, H⟩ := H
 replace H : (impl_field_power.l0 k a0 a1 a2 t281) = some r := H
 have A4 := zA A40
 clear A40
 have H' := zA H
 clear H
 go_enter Try.func150, Try.ntmps150
 go_wp2_with (first | ((with_reducible refine gate_callee (f := 122) rfl ?_); refine gL (some 9) Try.func122 #[.int .i64 a0, .int .i64 1] ?_; (with_reducible refine (impl_field_mod.calls a0 1 t281 _ A4.out).mono ?_); rintro e w' ⟨rfl, ⟨nd, rfl⟩⟩; refine ⟨_, rfl, ?_⟩))
 go_loopg [1, 2, 7] k (fun kq v1 v2 v7 w' => ∃ (x1_1 : Int) (x2_1 : Int) (x7_1 : Int), v1 = .int .i64 x1_1 ∧ v2 = .int .i64 x2_1 ∧ v7 = .int .i64 x7_1 ∧ Aside0 (impl_field_power.l0 kq a0 x1_1 x2_1 x7_1 = some r) ∧ Aside0 (kq ≤ k) ∧ Drawn0 w w')
 case atStart => exact ⟨(a1), (a2), (t281), (by first | rfl | (simp; done) | (simp [*]; done)), (by first | rfl | (simp; done) | (simp [*]; done)), (by first | rfl | (simp; done) | (simp [*]; done)), H', ⟨Nat.le_refl _⟩, by repeat (first | exact Drawn0.refl _ | apply Drawn0.step)⟩
 case round =>
  clear H'
  (try clear c1);(try clear p2)
  obtain ⟨x1_1, x2_1, x7_1, rfl, rfl, rfl, HA, HK1, ⟨m1, rfl⟩⟩ := hrel
  cases gk with
  | zero => exact absurd HA.out (by simp [impl_field_power.l0])
  | succ k1 =>
   have H := HA.out
   clear HA
   simp only [impl_field_power.l0] at H
   by_cases c5 : x2_1 > 0
   rotate_left
   ·rw [if_neg c5] at H
    have c5b0 : decide (0 < x2_1) = false := decide_eq_false c5
    clear c5
    obtain rfl := Option.some.inj H
    go_wp2
    go_ret
    exact ⟨by first | rfl | (simp; done) | (simp [*]; done), by repeat (first | exact Drawn0.refl _ | apply Drawn0.step)⟩

   rw [if_pos c5] at H
   have c5b0 : decide (0 < x2_1) = true := decide_eq_true c5
   clear c5
   by_cases c6 : (Int.tmod x2_1 2) = 1
   rotate_left
   ·rw [if_neg c6] at H
    have c6b0 : ((Int.tmod x2_1 2) == 1) = false := beq_eq_false_iff_ne.mpr c6
    have c6b1 : ((Int.tmod x2_1 2) != 1) = true := bne_iff_ne.mpr c6
    replace H := Option.bind_eq_some_iff.mp H
    obtain ⟨t284, A90, H⟩ := H
    replace H : (impl_field_power.l0 k1 a0 t284 (wrap64 (Int.tdiv x2_1 2)) x7_1) = some r := H
    have A9 := zA A90
    clear A90
    have H' := zA H
    clear H
    go_wp2_with (first | ((with_reducible refine gate_callee (f := 131) rfl ?_); refine gL (some 24) Try.func131 #[.int .i64 a0, .int .i64 x1_1, .int .i64 x1_1] ?_; (with_reducible refine (impl_field_mul.calls a0 x1_1 x1_1 t284 _ A9.out).mono ?_); rintro e w' ⟨rfl, ⟨nd, rfl⟩⟩; refine ⟨_, rfl, ?_⟩))
    go_roundg k1
    case measure => have := HK1.out; omega
    case rel => exact ⟨(t284), (wrap64 (Int.tdiv x2_1 2)), (x7_1), (by first | rfl | (simp; done) | (simp [*]; done)), (by first | rfl | (simp; done) | (simp [*]; done)), (by first | rfl | (simp; done) | (simp [*]; done)), H', ⟨by have := HK1.out; omega⟩, by repeat (first | exact Drawn0.refl _ | apply Drawn0.step)⟩
   rw [if_pos c6] at H
   have c6b0 : ((Int.tmod x2_1 2) == 1) = true := beq_iff_eq.mpr c6
   have c6b1 : ((Int.tmod x2_1 2) != 1) = false := bne_eq_false_iff_eq.mpr c6
   clear c6
   replace H := Option.bind_eq_some_iff.mp H
   obtain ⟨t282, A70, H⟩ := H
   replace H : ((impl_field_mul.f a0 x1_1 x1_1).bind fun t283 => (impl_field_power.l0 k1 a0 t283 (wrap64 (Int.tdiv x2_1 2)) t282)) = some r := H
   have A7 := zA A70
   clear A70
   replace H := Option.bind_eq_some_iff.mp H
   obtain ⟨t283, A80, H⟩ := H
   replace H : (impl_field_power.l0 k1 a0 t283 (wrap64 (Int.tdiv x2_1 2)) t282) = some r := H
   have A8 := zA A80
   clear A80
   have H' := zA H
   clear H
   go_wp2_with (first | ((with_reducible refine gate_callee (f := 131) rfl ?_); refine gL (some 20) Try.func131 #[.int .i64 a0, .int .i64 x7_1, .int .i64 x1_1] ?_; (with_reducible refine (impl_field_mul.calls a0 x7_1 x1_1 t282 _ A7.out).mono ?_); rintro e w' ⟨rfl, ⟨nd, rfl⟩⟩; refine ⟨_, rfl, ?_⟩) | ((with_reducible refine gate_callee (f := 131) rfl ?_); refine gL (some 24) Try.func131 #[.int .i64 a0, .int .i64 x1_1, .int .i64 x1_1] ?_; (with_reducible refine (impl_field_mul.calls a0 x1_1 x1_1 t283 _ A8.out).mono ?_); rintro e w' ⟨rfl, ⟨nd, rfl⟩⟩; refine ⟨_, rfl, ?_⟩))
   go_roundg k1
   case measure => have := HK1.out; omega
   case rel => exact ⟨(t283), (wrap64 (Int.tdiv x2_1 2)), (t282), (by first | rfl | (simp; done) | (simp [*]; done)), (by first | rfl | (simp; done) | (simp [*]; done)), (by first | rfl | (simp; done) | (simp [*]; done)), H', ⟨by have := HK1.out; omega⟩, by repeat (first | exact Drawn0.refl _ | apply Drawn0.step)⟩
/-! ### impl_field_inverse: function 126 -/
def impl_field_inverse.f (k : Nat) (a0 : Int) (a1 : Int) : Option (Int) := (impl_field_power.f k a0 a1 (wrap64 (a0 - 2))).bind fun t285 => (some t285)
set_option maxHeartbeats 8000000 in
set_option maxRecDepth 100000 in
theorem impl_field_inverse.calls (k : Nat) (a0 : Int) (a1 : Int) (r : Int) (w : World) (h : impl_field_inverse.f k a0 a1 = some r) :
  Calls Try.prog 126 #[.int .i64 a0, .int .i64 a1] w fun e w' => e = .returned (.int .i64 r) ∧ Drawn0 w w' := by
 have H : ((impl_field_power.f k a0 a1 (wrap64 (a0 - 2))).bind fun t285 => (some t285)) = some r := h
 clear h
 replace H := Option.bind_eq_some_iff.mp H
 obtain ⟨t285, A30, H⟩ := H
 replace H : (some t285) = some r := H
 have A3 := zA A30
 clear A30
 obtain rfl := Option.some.inj H
 go_enter Try.func126, Try.ntmps126
 go_wp2_with (first | ((with_reducible refine gate_callee (f := 150) rfl ?_); refine gL (some 9) Try.func150 #[.int .i64 a0, .int .i64 a1, .int .i64 (wrap64 (a0 - 2))] ?_; (with_reducible refine (impl_field_power.calls k a0 a1 (wrap64 (a0 - 2)) t285 _ A3.out).mono ?_); rintro e w' ⟨rfl, ⟨nd, rfl⟩⟩; refine ⟨_, rfl, ?_⟩))
 go_ret
 exact ⟨by first | rfl | (simp; done) | (simp [*]; done), by repeat (first | exact Drawn0.refl _ | apply Drawn0.step)⟩
/-! ### impl_field_div: function 132 -/
def impl_field_div.f (k : Nat) (a0 : Int) (a1 : Int) (a2 : Int) : Option (Int) := (impl_field_inverse.f k a0 a2).bind fun t286 => ((impl_field_mul.f a0 a1 t286).bind fun t287 => (some t287))
set_option maxHeartbeats 8000000 in
set_option maxRecDepth 100000 in
theorem impl_field_div.calls (k : Nat) (a0 : Int) (a1 : Int) (a2 : Int) (r : Int) (w : World) (h : impl_field_div.f k a0 a1 a2 = some r) :
  Calls Try.prog 132 #[.int .i64 a0, .int .i64 a1, .int .i64 a2] w fun e w' => e = .returned (.int .i64 r) ∧ Drawn0 w w' := by
 have H : ((impl_field_inverse.f k a0 a2).bind fun t286 => ((impl_field_mul.f a0 a1 t286).bind fun t287 => (some t287))) = some r := h
 clear h
 replace H := Option.bind_eq_some_iff.mp H
 obtain ⟨t286, A40, H⟩ := H
 replace H : ((impl_field_mul.f a0 a1 t286).bind fun t287 => (some t287)) = some r := H
 have A4 := zA A40
 clear A40
 replace H := Option.bind_eq_some_iff.mp H
 obtain ⟨t287, A50, H⟩ := H
 replace H : (some t287) = some r := H
 have A5 := zA A50
 clear A50
 obtain rfl := Option.some.inj H
 go_enter Try.func132, Try.ntmps132
 go_wp2_with (first | ((with_reducible refine gate_callee (f := 126) rfl ?_); refine gL (some 11) Try.func126 #[.int .i64 a0, .int .i64 a2] ?_; (with_reducible refine (impl_field_inverse.calls k a0 a2 t286 _ A4.out).mono ?_); rintro e w' ⟨rfl, ⟨nd, rfl⟩⟩; refine ⟨_, rfl, ?_⟩) | ((with_reducible refine gate_callee (f := 131) rfl ?_); refine gL (some 12) Try.func131 #[.int .i64 a0, .int .i64 a1, .int .i64 t286] ?_; (with_reducible refine (impl_field_mul.calls a0 a1 t286 t287 _ A5.out).mono ?_); rintro e w' ⟨rfl, ⟨nd, rfl⟩⟩; refine ⟨_, rfl, ?_⟩))
 go_ret
 exact ⟨by first | rfl | (simp; done) | (simp [*]; done), by repeat (first | exact Drawn0.refl _ | apply Drawn0.step)⟩
/-! ### impl_trimmed: function 136 -/
def impl_trimmed.l0 : Nat → List Int → Option (List Int)
 | 0, _ => none
 | k + 1, x0 => if (x0.length : Int) > 0 then (if 0 ≤ (wrap64 ((x0.length : Int) - 1)) then (if (wrap64 ((x0.length : Int) - 1)) < (x0.length : Int) then (if (rd x0 (wrap64 ((x0.length : Int) - 1))) = 0 then (if (wrap64 ((x0.length : Int) - 1)) ≤ (x0.length : Int) then (impl_trimmed.l0 k (x0.take ((wrap64 ((x0.length : Int) - 1)) : Int).toNat)) else (none)) else (some x0)) else (none)) else (none)) else (some x0)
def impl_trimmed.f (k : Nat) (l0 : List Int) : Option (List Int) := impl_trimmed.l0 k l0
set_option maxHeartbeats 8000000 in
set_option maxRecDepth 100000 in
theorem impl_trimmed.calls (k : Nat) (P0_ : Nat → Prop) (u9000_ : Value) (l0 : List Int) (r : List Int) (w0 w : World) (hB : Below w0.heap.size w0 w) (ho0 : Kd.R (Kd.int .i64) 2 w w0.heap.size P0_ u9000_ l0) (h : impl_trimmed.f k l0 = some r) :
  Calls Try.prog 136 #[u9000_] w fun e w' => ∃ v0_ : Value, e = .returned (v0_) ∧ Kd.R (Kd.int .i64) 2 w' w0.heap.size (fun k_ => (P0_ k_ ∨ w.heap.size ≤ k_)) v0_ r ∧ Below w0.heap.size w0 w' ∧ Kept w w' (fun k_ => P0_ k_) := by
 have HO0 := zA (show Kd.R (Kd.int .i64) 2 w w0.heap.size (fun k_ => (P0_ k_ ∨ w.heap.size ≤ k_)) u9000_ l0 from Kd.R_mono ho0 (fun k_ hk => (.inl hk)))
 have HK := zA (Kept.refl w (fun k_ => P0_ k_))
 have HW0 := zA hB.size
 have HB := zA hB
 clear hB
 have H : (impl_trimmed.l0 k l0) = some r := h
 clear h
 have H' := zA H
 clear H
 go_enter Try.func136, Try.ntmps136
 go_wp2
 go_loopg [0] k (fun kq v0 w' => ∃ (x0_1 : List Int), Aside0 (impl_trimmed.l0 kq x0_1 = some r) ∧ Aside0 (kq ≤ k) ∧ Aside0 (Kd.R (Kd.int .i64) 2 w' w0.heap.size (fun k_ => (P0_ k_ ∨ w.heap.size ≤ k_)) v0 x0_1) ∧ Aside0 (Kept w w' (fun k_ => P0_ k_)) ∧ Aside0 (Below w0.heap.size w0 w'))
 case atStart => exact ⟨(l0), H', ⟨Nat.le_refl _⟩, ⟨uR HO0.out⟩, ⟨by repeat (first | (with_reducible first | exact HK.out | apply Kept.alloc | apply Kept.drewN | apply Kept.drew) | exact HK.out)⟩, ⟨uH HB.out⟩⟩
 case round =>
  clear H'
  try clear c1
  obtain ⟨x0_1, HA, HK1, HO_0, HK, HB⟩ := hrel
  cases gk with
  | zero => exact absurd HA.out (by simp [impl_trimmed.l0])
  | succ k1 =>
   have H := HA.out
   clear HA
   simp only [impl_trimmed.l0] at H
   by_cases c2 : (x0_1.length : Int) > 0
   rotate_left
   ·rw [if_neg c2] at H
    have c2b0 : decide (0 < (x0_1.length : Int)) = false := decide_eq_false c2
    have c2b1 : decide (0 < x0_1.length) = false := decide_eq_false (by omega)
    clear c2
    obtain rfl := Option.some.inj H
    obtain ⟨Ao11, co11, eo11⟩ := Kd.R_slice HO_0.out
    subst eo11
    go_wp2
    go_ret
    exact ⟨_, by first | rfl | (simp [errW_none, errW_some] <;> rfl) | (simp [*, errW_none, errW_some] <;> rfl), uR HO_0.out, uH HB.out, by repeat (first | (with_reducible first | exact HK.out | apply Kept.alloc | apply Kept.drewN | apply Kept.drew) | exact HK.out)⟩

   rw [if_pos c2] at H
   have c2b0 : decide (0 < (x0_1.length : Int)) = true := decide_eq_true c2
   have c2b1 : decide (0 < x0_1.length) = true := decide_eq_true (by omega)
   clear c2
   obtain ⟨ji3, hji3⟩ : ∃ j_ : Int, (wrap64 ((x0_1.length : Int) - 1)) = j_ := ⟨_, rfl⟩
   replace H : (if 0 ≤ (ji3) then (if (ji3) < (x0_1.length : Int) then (if (rd x0_1 (ji3)) = 0 then (if (ji3) ≤ (x0_1.length : Int) then (impl_trimmed.l0 k1 (x0_1.take ((ji3) : Int).toNat)) else (none)) else (some x0_1)) else (none)) else (none)) = some r := by first | (rw [hji3] at H; exact H) | (simp only [hji3] at H ⊢; exact H)
   have hji3w : (IntKind.i64.wrap ((x0_1.length : Int) - 1)) = ji3 := (i64_w _).trans hji3
   by_cases c4 : 0 ≤ (ji3)
   rotate_left
   ·rw [if_neg c4] at H
    exact absurd H (by simp)
   rw [if_pos c4] at H
   have c4b0 : decide (0 ≤ (ji3)) = true := decide_eq_true c4
   clear c4
   by_cases c5 : (ji3) < (x0_1.length : Int)
   rotate_left
   ·rw [if_neg c5] at H
    exact absurd H (by simp)
   rw [if_pos c5] at H
   have c5b0 : decide ((ji3) < (x0_1.length : Int)) = true := decide_eq_true c5
   clear c5
   by_cases c6 : (rd x0_1 (ji3)) = 0
   rotate_left
   ·rw [if_neg c6] at H
    have c6b0 : ((rd x0_1 (ji3)) == 0) = false := beq_eq_false_iff_ne.mpr c6
    have c6b1 : ((rd x0_1 (ji3)) != 0) = true := bne_iff_ne.mpr c6
    obtain rfl := Option.some.inj H
    obtain ⟨Ao10, co10, eo10⟩ := Kd.R_slice HO_0.out
    subst eo10
    have p263 : 0 ≤ ((ji3) : Int) := of_decide_eq_true (by first | (with_reducible assumption) | assumption)
    have q263 : (ji3) < (x0_1.length : Int) := of_decide_eq_true (by first | (with_reducible assumption) | assumption)
    obtain ⟨ad263, e263, hx263_0⟩ := Kd.at_int (Kd.R_reads' HO_0.out).2.2 (ji3) p263 q263
    cases e263
    replace p263 := eq_true p263
    replace q263 := eq_true q263
    go_wp2
    go_ret
    exact ⟨_, by first | rfl | (simp [errW_none, errW_some] <;> rfl) | (simp only [← hji3]; first | rfl | (simp [errW_none, errW_some] <;> rfl)) | (simp [*, errW_none, errW_some] <;> rfl), uR HO_0.out, uH HB.out, by repeat (first | (with_reducible first | exact HK.out | apply Kept.alloc | apply Kept.drewN | apply Kept.drew) | exact HK.out)⟩
   rw [if_pos c6] at H
   have c6b0 : ((rd x0_1 (ji3)) == 0) = true := beq_iff_eq.mpr c6
   have c6b1 : ((rd x0_1 (ji3)) != 0) = false := bne_eq_false_iff_eq.mpr c6
   clear c6
   by_cases c7 : (ji3) ≤ (x0_1.length : Int)
   rotate_left
   ·rw [if_neg c7] at H
    exact absurd H (by simp)
   rw [if_pos c7] at H
   have c7b0 := eq_true c7
   have c7b1 : decide ((ji3) ≤ (x0_1.length : Int)) = true := decide_eq_true c7
   clear c7
   obtain ⟨y264, hy264⟩ : ∃ y_ : List Int, y_ = (x0_1.take ((ji3) : Int).toNat) := ⟨_, rfl⟩
   replace H : (impl_trimmed.l0 k1 y264) = some r := by first | (rw [hy264]; exact H) | exact H
   have Ny264 := zA hy264
   clear hy264
   have H' := zA H
   clear H
   obtain ⟨Ao8, co8, eo8⟩ := Kd.R_slice HO_0.out
   subst eo8
   have p263 : 0 ≤ ((ji3) : Int) := of_decide_eq_true (by first | (with_reducible assumption) | assumption)
   have q263 : (ji3) < (x0_1.length : Int) := of_decide_eq_true (by first | (with_reducible assumption) | assumption)
   obtain ⟨ad263, e263, hx263_0⟩ := Kd.at_int (Kd.R_reads' HO_0.out).2.2 (ji3) p263 q263
   cases e263
   replace p263 := eq_true p263
   replace q263 := eq_true q263
   have q9 : ((ji3) : Int) ≤ ((x0_1.length : Int) : Int) := of_decide_eq_true (by first | (with_reducible assumption) | assumption)
   obtain ⟨i09, hi09, _, hsz9, _⟩ := info_parts info2
   have hcut9 := cut_to (P := Try.prog) 22 2 .i64 Try.underlying22 hi09 (some ad263) x0_1.length co8 (ji3) (of_decide_eq_true (by first | (with_reducible assumption) | assumption)) q9 (Kd.R_reads' HO_0.out).2.1
   have hr9 := Kd.R_take (m := ((ji3) : Int).toNat) HO_0.out (by omega)
   have hy9 : y264.length = ((ji3) : Int).toNat := (by rw [Ny264.out, List.length_take]; omega)
   rw [← Ny264.out] at hr9
   rw [← hy9] at hr9 hcut9
   clear hy9 hi09 hsz9 HO_0
   have HO266 := zA hr9
   clear hr9
   replace q9 := eq_true q9
   go_wp2
   go_roundg k1
   case measure => have := HK1.out; omega
   case rel => exact ⟨(y264), H', ⟨by have := HK1.out; omega⟩, ⟨uR HO266.out⟩, ⟨by repeat (first | (with_reducible first | exact HK.out | apply Kept.alloc | apply Kept.drewN | apply Kept.drew) | exact HK.out)⟩, ⟨uH HB.out⟩⟩
end Go.Proofs.Ytfbnkebgdmfcfaa.Pr
