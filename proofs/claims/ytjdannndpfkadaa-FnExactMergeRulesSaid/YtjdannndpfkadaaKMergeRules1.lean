/- Texts of this session in one: what functions of the program compute, and plain facts of it, under the conditions that each theorem names. -/
import Derived.ArgAppend
import Derived.Below
import Derived.BigQuiet
import Derived.Deep.AppendLies
import Derived.Deep.CutBlock
import Derived.Deep.DeepCutAuto
import Derived.Deep.Draws
import Derived.Deep.LoopGhost
import Derived.Deep.OwnRows
import Derived.Deep.QuietTactic
import Derived.Deep.RegionHeld3
import Derived.Ground.GgzProg
import Derived.Ground.SlgmProg
import Derived.KernelRfl
import Derived.Laws.BitsLemmas
import Derived.Laws.BytesArg
import Derived.Laws.IdiomCopy
import Derived.Laws.MakeOwn
import Derived.Laws.OwnMore
import Derived.Laws.Rows
import Derived.Laws.Slices
import Derived.Lib.AppendStr
import Derived.Lib.ConvBytes
import Derived.Lib.SlKeysI
import Derived.Maps.AppendAt
import Derived.Maps.OwnOps
import Derived.Maps.OwnSet
import Derived.OrdersHeld
import Derived.OwnWalk
import Derived.RowKit
import Derived.RowKit3
import Derived.Shelf.Abstract
import Derived.Shelf.SlGeneric
import Derived.Shelf.SlIterI.Nil
import Derived.Shelf.SortM.Plain
import Derived.Shelf.SortM.SortNone
import Derived.Tactics
import Derived.Test.YtjdannndpfkadaaProg
import Derived.WalkKit
import Derived.WideLaws
import Derived.Test.YtjdannndpfkadaaKWApart
import Derived.Test.YtjdannndpfkadaaKWArr
import Derived.Test.YtjdannndpfkadaaKWAt
import Derived.Test.YtjdannndpfkadaaKWEqStruct
import Derived.Test.YtjdannndpfkadaaKWFoot
import Derived.Test.YtjdannndpfkadaaKWFootNe
import Derived.Test.YtjdannndpfkadaaKWFour
import Derived.Test.YtjdannndpfkadaaKWGuard
import Derived.Test.YtjdannndpfkadaaKWInv
import Derived.Test.YtjdannndpfkadaaKWInvWords
import Derived.Test.YtjdannndpfkadaaKWKept
import Derived.Test.YtjdannndpfkadaaKWLast
import Derived.Test.YtjdannndpfkadaaKWMore
import Derived.Test.YtjdannndpfkadaaKWN
import Derived.Test.YtjdannndpfkadaaKWNEv
import Derived.Test.YtjdannndpfkadaaKWQPut
import Derived.Test.YtjdannndpfkadaaKWRepsOne
import Derived.Test.YtjdannndpfkadaaKWShare
import Derived.Test.YtjdannndpfkadaaKWTab
import Derived.Test.YtjdannndpfkadaaKWWords
import Derived.Test.YtjdannndpfkadaaKWZeros
namespace Go.Proofs.Ytjdannndpfkadaa.Pr
/- Function values: what a caller is told of a value of function type (its call answers as a plain function says), and one step of a walk that calls it. -/
open Go.RowKit Go.Proofs.YtjdannndpfkadaaW.PrintWords Go.Proofs.YtjdannndpfkadaaW.PrintLast Go.Proofs.YtjdannndpfkadaaW.PrintMore
section
variable {P : Program} {w W : World} {F : Value}

/-- F is a function value that takes nothing and answers b in every later world. -/
def FnB (P : Program) (w : World) (F : Value) (b : Bool) : Prop :=
  ∃ (g : FuncId) (fi ca : Array Value), F = .func (.func g) fi ca ∧ Enters P g ∧
    ∀ W, Below w.heap.size w W → Calls P g (fi ++ ca) W fun e W' => e = .returned (.bool b) ∧ Below W.heap.size W W'
/-- F is a function value that takes a whole number x and answers f x. -/
def FnI (P : Program) (w : World) (F : Value) (f : Int → Option Bool) : Prop :=
  ∃ (g : FuncId) (fi ca : Array Value), F = .func (.func g) fi ca ∧ Enters P g ∧
    ∀ x r, f x = some r → ∀ W, Below w.heap.size w W → Calls P g (fi ++ #[.int .i64 x] ++ ca) W fun e W' => e = .returned (.bool r) ∧ Below W.heap.size W W'
/-- F is a function value that takes a list l of whole numbers and answers f l. -/
def FnL (P : Program) (w : World) (F : Value) (f : List Int → Option Bool) : Prop :=
  ∃ (g : FuncId) (fi ca : Array Value), F = .func (.func g) fi ca ∧ Enters P g ∧
    ∀ l r A c, f l = some r → ∀ W, Below w.heap.size w W → Kd.C (Kd.int .i64) W A l.length l → l.length ≤ c →
      Calls P g (fi ++ #[.slice A l.length c] ++ ca) W fun e W' => e = .returned (.bool r) ∧ Below W.heap.size W W'

theorem FnB.of {g : FuncId} {fn : Func} (hf : P.funcs[g]? = some fn) (hn : (fn.name == "runtime.NumGoroutine") = false) (hb : fn.body.isSome = true := by rfl) {fi ca : Array Value} {b : Bool}
    (h : ∀ W, Below w.heap.size w W → Calls P g (fi ++ ca) W fun e W' => e = .returned (.bool b) ∧ Below W.heap.size W W') : FnB P w (.func (.func g) fi ca) b :=
  ⟨g, fi, ca, rfl, fun args W => enters_ hf hn hb args W, h⟩
theorem FnI.of {g : FuncId} {fn : Func} (hf : P.funcs[g]? = some fn) (hn : (fn.name == "runtime.NumGoroutine") = false) (hb : fn.body.isSome = true := by rfl) {fi ca : Array Value} {f : Int → Option Bool}
    (h : ∀ x r, f x = some r → ∀ W, Below w.heap.size w W → Calls P g (fi ++ #[.int .i64 x] ++ ca) W fun e W' => e = .returned (.bool r) ∧ Below W.heap.size W W') : FnI P w (.func (.func g) fi ca) f :=
  ⟨g, fi, ca, rfl, fun args W => enters_ hf hn hb args W, h⟩
theorem FnL.of {g : FuncId} {fn : Func} (hf : P.funcs[g]? = some fn) (hn : (fn.name == "runtime.NumGoroutine") = false) (hb : fn.body.isSome = true := by rfl) {fi ca : Array Value} {f : List Int → Option Bool}
    (h : ∀ l r A c, f l = some r → ∀ W, Below w.heap.size w W → Kd.C (Kd.int .i64) W A l.length l → l.length ≤ c →
      Calls P g (fi ++ #[.slice A l.length c] ++ ca) W fun e W' => e = .returned (.bool r) ∧ Below W.heap.size W W') : FnL P w (.func (.func g) fi ca) f :=
  ⟨g, fi, ca, rfl, fun args W => enters_ hf hn hb args W, h⟩

theorem FnB.later {F : Value} {b : Bool} (hb : Below w.heap.size w W) (h : FnB P w F b) : FnB P W F b := by
  obtain ⟨g, fi, ca, e, he, h⟩ := h
  exact ⟨g, fi, ca, e, he, fun W2 h2 => h W2 (hb.trans (h2.mono hb.size))⟩
theorem FnI.later {F : Value} {f : Int → Option Bool} (hb : Below w.heap.size w W) (h : FnI P w F f) : FnI P W F f := by
  obtain ⟨g, fi, ca, e, he, h⟩ := h
  exact ⟨g, fi, ca, e, he, fun x r hr W2 h2 => h x r hr W2 (hb.trans (h2.mono hb.size))⟩
theorem FnL.later {F : Value} {f : List Int → Option Bool} (hb : Below w.heap.size w W) (h : FnL P w F f) : FnL P W F f := by
  obtain ⟨g, fi, ca, e, he, h⟩ := h
  exact ⟨g, fi, ca, e, he, fun l r A c hr W2 h2 => h l r A c hr W2 (hb.trans (h2.mono hb.size))⟩
end
/- The library's maps.Keys, slices.Sorted and slices.Sort at numbers are in this program what they are in the shelf's own: a field a fact of the program's own, or the kernel's comparison; printed by a tool of the kit. -/
open Go.Shelf
def iterKeys_ren : Go.Shelf.Ren := ⟨fun | 7 => 75 | 10 => 89 | n => n, fun | 23 => 80 | 26 => 2 | 3 => 2 | 28 => 89 | 0 => 0 | 27 => 88 | 33 => 79 | 4 => 4 | n => n, fun | n => n⟩
theorem iterKeys : Go.Proofs.SlLaysZI.n7 Try.prog iterKeys_ren := {
  mixed := by kernel_rfl
  f7 := ⟨Try.f75.name, by decide, Try.func75.trans (congrArg some (by kernel_rfl))⟩
  f10 := ⟨Try.f89.name, by decide, Try.func89.trans (congrArg some (by kernel_rfl))⟩
  t0 := Try.underlying0
  a0 := Try.isAgg0
  z0 := Try.sizeOf0
  v0 := Try.zeroValue0
  t4 := Try.underlying4
  a4 := Try.isAgg4
  z4 := Try.sizeOf4
  v4 := Try.zeroValue4
  t23 := Try.underlying80
  a23 := Try.isAgg80
  z23 := Try.sizeOf80
  v23 := Try.zeroValue80
  t26 := Try.underlying2
  a26 := Try.isAgg2
  z26 := Try.sizeOf2
  v26 := Try.zeroValue2
  t27 := Try.underlying88
  a27 := Try.isAgg88
  z27 := Try.sizeOf88
  v27 := Try.zeroValue88
  t28 := Try.underlying89
  a28 := Try.isAgg89
  z28 := Try.sizeOf89
  v28 := Try.zeroValue89
  t33 := Try.underlying79
  a33 := Try.isAgg79
  z33 := Try.sizeOf79
  v33 := Try.zeroValue79 }
def iterSorted_ren : Go.Shelf.Ren := ⟨fun | 6 => 74 | 8 => 87 | 9 => 88 | 11 => 93 | 13 => 95 | 12 => 94 | 23 => 106 | 24 => 107 | 14 => 97 | 15 => 98 | 16 => 99 | 17 => 100 | 18 => 101 | 19 => 102 | 20 => 103 | 21 => 104 | 22 => 105 | 25 => 108 | 26 => 109 | 27 => 110 | 28 => 111 | 29 => 112 | 30 => 113 | 31 => 114 | n => n, fun | 26 => 2 | 28 => 89 | 24 => 22 | 0 => 0 | 3 => 3 | 37 => 99 | 48 => 111 | 50 => 113 | 4 => 4 | 40 => 103 | 39 => 102 | 45 => 108 | 5 => 5 | 9 => 9 | 51 => 114 | 55 => 118 | 57 => 120 | 58 => 121 | 33 => 79 | n => n, fun | n => n⟩
theorem iterSorted : Go.Proofs.SlLaysZI.n6 Try.prog iterSorted_ren := {
  mixed := by kernel_rfl
  f6 := ⟨Try.f74.name, by decide, Try.func74.trans (congrArg some (by kernel_rfl))⟩
  f8 := ⟨Try.f87.name, by decide, Try.func87.trans (congrArg some (by kernel_rfl))⟩
  f11 := ⟨Try.f93.name, by decide, Try.func93.trans (congrArg some (by kernel_rfl))⟩
  t0 := Try.underlying0
  a0 := Try.isAgg0
  z0 := Try.sizeOf0
  v0 := Try.zeroValue0
  t24 := Try.underlying22
  a24 := Try.isAgg22
  z24 := Try.sizeOf22
  v24 := Try.zeroValue22
  t26 := Try.underlying2
  a26 := Try.isAgg2
  z26 := Try.sizeOf2
  v26 := Try.zeroValue2
  t28 := Try.underlying89
  a28 := Try.isAgg89
  z28 := Try.sizeOf89
  v28 := Try.zeroValue89
  i26 := by kernel_rfl }
def iterSort_ren : Go.Shelf.Ren := ⟨fun | 5 => 88 | 8 => 95 | 7 => 94 | 19 => 106 | 20 => 107 | 10 => 97 | 11 => 98 | 12 => 99 | 13 => 100 | 14 => 101 | 15 => 102 | 16 => 103 | 17 => 104 | 18 => 105 | 30 => 108 | 31 => 109 | 32 => 110 | 33 => 111 | 34 => 112 | 35 => 113 | 40 => 114 | n => n, fun | 23 => 22 | 25 => 2 | 3 => 3 | 32 => 99 | 22 => 22 | 0 => 0 | 44 => 111 | 46 => 113 | 4 => 4 | 36 => 103 | 35 => 102 | 41 => 108 | 5 => 5 | 9 => 9 | 53 => 114 | 57 => 118 | 63 => 120 | 64 => 121 | n => n, fun | n => n⟩
theorem iterSort : Go.Proofs.SlLaysM.n5 Try.prog iterSort_ren := {
  mixed := by kernel_rfl
  f5 := ⟨Try.f88.name, by decide, Try.func88.trans (congrArg some (by kernel_rfl))⟩
  f7 := ⟨Try.f94.name, by decide, Try.func94.trans (congrArg some (by kernel_rfl))⟩
  f8 := Try.func95.trans (congrArg some (by kernel_rfl))
  f10 := ⟨Try.f97.name, by decide, Try.func97.trans (congrArg some (by kernel_rfl))⟩
  f11 := ⟨Try.f98.name, by decide, Try.func98.trans (congrArg some (by kernel_rfl))⟩
  f12 := ⟨Try.f99.name, by decide, Try.func99.trans (congrArg some (by kernel_rfl))⟩
  f13 := ⟨Try.f100.name, by decide, Try.func100.trans (congrArg some (by kernel_rfl))⟩
  f14 := ⟨Try.f101.name, by decide, Try.func101.trans (congrArg some (by kernel_rfl))⟩
  f15 := ⟨Try.f102.name, by decide, Try.func102.trans (congrArg some (by kernel_rfl))⟩
  f16 := ⟨Try.f103.name, by decide, Try.func103.trans (congrArg some (by kernel_rfl))⟩
  f17 := ⟨Try.f104.name, by decide, Try.func104.trans (congrArg some (by kernel_rfl))⟩
  f18 := ⟨Try.f105.name, by decide, Try.func105.trans (congrArg some (by kernel_rfl))⟩
  f19 := Try.func106.trans (congrArg some (by kernel_rfl))
  f20 := Try.func107.trans (congrArg some (by kernel_rfl))
  f30 := ⟨Try.f108.name, by decide, Try.func108.trans (congrArg some (by kernel_rfl))⟩
  f31 := Try.func109.trans (congrArg some (by kernel_rfl))
  f32 := Try.func110.trans (congrArg some (by kernel_rfl))
  f33 := ⟨Try.f111.name, by decide, Try.func111.trans (congrArg some (by kernel_rfl))⟩
  f34 := ⟨Try.f112.name, by decide, Try.func112.trans (congrArg some (by kernel_rfl))⟩
  f35 := ⟨Try.f113.name, by decide, Try.func113.trans (congrArg some (by kernel_rfl))⟩
  f40 := ⟨Try.f114.name, by decide, Try.func114.trans (congrArg some (by kernel_rfl))⟩
  t0 := Try.underlying0
  a0 := Try.isAgg0
  z0 := Try.sizeOf0
  v0 := Try.zeroValue0
  t3 := Try.underlying3
  a3 := Try.isAgg3
  z3 := Try.sizeOf3
  v3 := Try.zeroValue3
  t4 := Try.underlying4
  a4 := Try.isAgg4
  z4 := Try.sizeOf4
  v4 := Try.zeroValue4
  t5 := Try.underlying5
  a5 := Try.isAgg5
  z5 := Try.sizeOf5
  v5 := Try.zeroValue5
  t9 := Try.underlying9
  a9 := Try.isAgg9
  z9 := Try.sizeOf9
  v9 := Try.zeroValue9
  t22 := Try.underlying22
  a22 := Try.isAgg22
  z22 := Try.sizeOf22
  v22 := Try.zeroValue22
  t23 := Try.underlying22
  a23 := Try.isAgg22
  z23 := Try.sizeOf22
  v23 := Try.zeroValue22
  t25 := Try.underlying2
  a25 := Try.isAgg2
  z25 := Try.sizeOf2
  v25 := Try.zeroValue2
  t32 := Try.underlying99
  a32 := Try.isAgg99
  z32 := Try.sizeOf99
  v32 := Try.zeroValue99
  t35 := Try.underlying102
  a35 := Try.isAgg102
  z35 := Try.sizeOf102
  v35 := Try.zeroValue102
  t36 := Try.underlying103
  a36 := Try.isAgg103
  z36 := Try.sizeOf103
  v36 := Try.zeroValue103
  t41 := Try.underlying108
  a41 := Try.isAgg108
  z41 := Try.sizeOf108
  v41 := Try.zeroValue108
  t44 := Try.underlying111
  a44 := Try.isAgg111
  z44 := Try.sizeOf111
  v44 := Try.zeroValue111
  t46 := Try.underlying113
  a46 := Try.isAgg113
  z46 := Try.sizeOf113
  v46 := Try.zeroValue113
  t53 := Try.underlying114
  a53 := Try.isAgg114
  z53 := Try.sizeOf114
  v53 := Try.zeroValue114
  t57 := Try.underlying118
  a57 := Try.isAgg118
  z57 := Try.sizeOf118
  v57 := Try.zeroValue118
  t63 := Try.underlying120
  a63 := Try.isAgg120
  z63 := Try.sizeOf120
  v63 := Try.zeroValue120
  t64 := Try.underlying121
  a64 := Try.isAgg121
  z64 := Try.sizeOf121
  v64 := Try.zeroValue121 }
/- Maps of numbers as lists of pairs in the keys' order: what is put in, what is read, the keys; no memory in it. -/
open Go Go.Maps
def insZ (x : Int × Int) : List (Int × Int) → List (Int × Int)
  | [] => [x]
  | y :: r => if x.1 < y.1 then x :: y :: r else y :: insZ x r
def putZ (es : List (Int × Int)) (k v : Int) : List (Int × Int) := insZ (k, v) (es.filter fun p => !decide (p.1 = k))
def getZ (es : List (Int × Int)) (k : Int) : Int := ((es.find? fun p => decide (p.1 = k)).map fun p => p.2).getD 0
def ent (p : Int × Int) : Lit × DataW Unit := (.int .i64 p.1, .lit (.int .i64 p.2))
def mapD (es : List (Int × Int)) : DataW Unit := .map (es.map ent)
theorem insert_ent (x : Int × Int) (es : List (Int × Int)) : DataW.insert (ent x) (es.map ent) = (insZ x es).map ent := by
  induction es with
  | nil => rfl
  | cons y r ih =>
    simp only [List.map_cons, DataW.insert, insZ, ih]
    by_cases h : x.1 < y.1
    · rw [if_pos h, if_pos (show (ent x).1.before (ent y).1 = true from decide_eq_true h)]; rfl
    · rw [if_neg h, if_neg (show ¬ (ent x).1.before (ent y).1 = true from fun g => h (of_decide_eq_true g))]; rfl
theorem same_ent (p : Int × Int) (k : Int) : (ent p).1.sameKey (.int .i64 k) = decide (p.1 = k) := by
  simp [ent, Lit.sameKey]
theorem mapD_put (es : List (Int × Int)) (k v : Int) : (mapD es).put (.int .i64 k) (.lit (.int .i64 v)) = mapD (putZ es k v) := by
  have e : (es.map ent).filter (fun p => !p.1.sameKey (.int .i64 k)) = (es.filter fun p => !decide (p.1 = k)).map ent := by
    rw [List.filter_map]
    congr 1
    apply List.filter_congr
    intro p _
    simp only [Function.comp, same_ent]
  unfold mapD putZ
  show DataW.map (DataW.insert (ent (k, v)) ((es.map ent).filter fun p => !p.1.sameKey (.int .i64 k))) = _
  rw [e]
  exact congrArg DataW.map (insert_ent (k, v) _)
theorem mapD_at (es : List (Int × Int)) (k : Int) : (mapD es).atKey (.int .i64 k) (.lit (.int .i64 0)) = .lit (.int .i64 (getZ es k)) := by
  unfold mapD DataW.atKey getZ
  simp only [List.find?_map]
  have e : (fun p : Lit × DataW Unit => p.1.sameKey (.int .i64 k)) ∘ ent = fun p => decide (p.1 = k) := by funext p; exact same_ent p k
  rw [e]
  cases es.find? (fun p => decide (p.1 = k)) with
  | none => rfl
  | some p => rfl
theorem mapD_size (es : List (Int × Int)) : Maps.size (mapD es) = es.length := by simp [mapD, Maps.size]
theorem mapD_keys (es : List (Int × Int)) : intKeys (mapD es) = es.map Prod.fst := by
  simp only [mapD, intKeys, List.map_map]
  apply List.map_congr_left
  intro p _
  rfl
/-- The keys rise. -/
def Asc (es : List (Int × Int)) : Prop := es.Pairwise fun p q => p.1 < q.1
theorem insZ_mem (x p : Int × Int) (es : List (Int × Int)) : p ∈ insZ x es ↔ p = x ∨ p ∈ es := by
  induction es with
  | nil => simp [insZ]
  | cons y r ih =>
    simp only [insZ]
    split
    · simp
    · simp only [List.mem_cons, ih]
      constructor
      · rintro (h | h | h)
        · exact .inr (.inl h)
        · exact .inl h
        · exact .inr (.inr h)
      · rintro (h | h | h)
        · exact .inr (.inl h)
        · exact .inl h
        · exact .inr (.inr h)
theorem insZ_asc (x : Int × Int) (es : List (Int × Int)) (h : Asc es) (hx : ∀ p ∈ es, p.1 ≠ x.1) : Asc (insZ x es) := by
  induction es with
  | nil => exact List.pairwise_singleton ..
  | cons y r ih =>
    have h1 := List.pairwise_cons.1 h
    simp only [insZ]
    split
    · rename_i hlt
      refine List.pairwise_cons.2 ⟨fun p hp => ?_, h⟩
      rcases List.mem_cons.1 hp with rfl | hp
      · exact hlt
      · exact Int.lt_trans hlt (h1.1 p hp)
    · rename_i hlt
      refine List.pairwise_cons.2 ⟨fun p hp => ?_, ih h1.2 (fun p hp => hx p (List.mem_cons_of_mem _ hp))⟩
      rcases (insZ_mem x p r).1 hp with rfl | hp
      · have := hx y (List.mem_cons_self ..)
        omega
      · exact h1.1 p hp
theorem putZ_asc {es : List (Int × Int)} (h : Asc es) (k v : Int) : Asc (putZ es k v) := by
  refine insZ_asc _ _ (List.Pairwise.filter _ h) (fun p hp => ?_)
  have := (List.mem_filter.1 hp).2
  simpa using this
theorem insZ_len (x : Int × Int) (es : List (Int × Int)) : (insZ x es).length = es.length + 1 := by
  induction es with
  | nil => rfl
  | cons y r ih =>
    simp only [insZ]
    split
    · rfl
    · simp only [List.length_cons, ih]
theorem putZ_len (es : List (Int × Int)) (k v : Int) : (putZ es k v).length ≤ es.length + 1 := by
  unfold putZ
  rw [insZ_len]
  have := List.length_filter_le (fun p : Int × Int => !decide (p.1 = k)) es
  omega
theorem getZ_at {es : List (Int × Int)} (h : Asc es) {p : Int × Int} (hp : p ∈ es) : getZ es p.1 = p.2 := by
  unfold getZ
  induction es with
  | nil => cases hp
  | cons y r ih =>
    have h1 := List.pairwise_cons.1 h
    by_cases e : y.1 = p.1
    · rw [List.find?_cons_of_pos (by simpa using e)]
      rcases List.mem_cons.1 hp with rfl | hp
      · rfl
      · have := h1.1 p hp
        omega
    · rw [List.find?_cons_of_neg (by simpa using e)]
      rcases List.mem_cons.1 hp with rfl | hp
      · exact absurd rfl e
      · exact ih h1.2 hp
theorem sorted_keys {es : List (Int × Int)} (h : Asc es) {ss : List Int} (hs : ss.Perm (es.map Prod.fst)) : ss.mergeSort leI = es.map Prod.fst := by
  rw [mergeSort_of_perm_i hs]
  refine List.mergeSort_of_pairwise ?_
  refine List.Pairwise.map _ (fun p q hpq => ?_) h
  show leI p.1 q.1 = true
  simp only [leI, decide_eq_true_eq]
  omega
/- Short names for what the printed walks spell out: facts of a world hold in each world that comes of it by new blocks and drawn numbers; no condition. -/
open Go Go.RowKit Go.Proofs.YtjdannndpfkadaaW.PrintWords Go.Proofs.YtjdannndpfkadaaW.PrintLast Go.Proofs.YtjdannndpfkadaaW.PrintMore
/-- `w` comes of `w0` by new blocks and drawn numbers alone. -/
class Up (w0 w : World) : Prop where
  up : Below w0.heap.size w0 w
instance Up.refl (w : World) : Up w w := ⟨Below.refl _ _⟩
instance Up.alloc (w0 w : World) (o : Obj) [u : Up w0 w] : Up w0 (w.alloc o) := ⟨below_alloc u.up o⟩
instance Up.drew (w0 w : World) [u : Up w0 w] : Up w0 w.drew := ⟨below_drew1 u.up⟩
instance Up.drewN (w0 w : World) (n : Nat) [u : Up w0 w] : Up w0 (w.drewN n) := ⟨pw_below_drewN u.up n⟩
instance Up.setDrewN (w0 w : World) (n : Nat) (a : Addr) (v : Value) [u : Up w0 (w.setCell a v)] : Up w0 ((w.drewN n).setCell a v) := ⟨⟨u.up.os, u.up.tape, u.up.output, u.up.size, u.up.block⟩⟩
instance Up.setDrew (w0 w : World) (a : Addr) (v : Value) [u : Up w0 (w.setCell a v)] : Up w0 (w.drew.setCell a v) := ⟨⟨u.up.os, u.up.tape, u.up.output, u.up.size, u.up.block⟩⟩
theorem setCell_drewN (w : World) (n : Nat) (a : Addr) (v : Value) : (w.drewN n).setCell a v = (w.setCell a v).drewN n := rfl
/-- The block lies behind the border. -/
class Geq (b g : Nat) : Prop where
  geq : b ≤ g
theorem geI {b g : Nat} (h : Aside0 (b ≤ g)) : Geq b g := ⟨h.out⟩
/-- The same, and cells of own blocks may be set. -/
class UpS (b : Nat) (w0 w : World) : Prop where
  up : ∀ {w1 : World}, b = w1.heap.size → Below b w1 w0 → Below b w1 w
instance UpS.refl (b : Nat) (w : World) : UpS b w w := ⟨fun _ h => h⟩
instance UpS.alloc (b : Nat) (w0 w : World) (o : Obj) [u : UpS b w0 w] : UpS b w0 (w.alloc o) := ⟨by rintro w1 rfl h; exact below_alloc (u.up rfl h) o⟩
instance UpS.drew (b : Nat) (w0 w : World) [u : UpS b w0 w] : UpS b w0 w.drew := ⟨fun e h => below_drew1 (u.up e h)⟩
instance UpS.drewN (b : Nat) (w0 w : World) (n : Nat) [u : UpS b w0 w] : UpS b w0 (w.drewN n) := ⟨fun e h => pw_below_drewN (u.up e h) n⟩
instance UpS.setCell (b : Nat) (w0 w : World) (g j : Nat) (v : Value) [u : UpS b w0 w] [q : Geq b g] : UpS b w0 (w.setCell ⟨g, j, none⟩ v) := ⟨by rintro w1 rfl h; exact below_set (u.up rfl h) q.geq⟩
section
variable {α : Type} {d : Kd α} {e : Nat} {w0 w w1 : World} {base : Nat} {ok : Nat → Prop} {v : Value} {xs : List α}
theorem uR (h : d.R e w0 base ok v xs) [u : Up w0 w] : d.R e w base ok v xs := Kd.R_below h u.up
theorem uC {A : Option Addr} {n : Nat} (h : d.C w0 A n xs) [u : Up w0 w] : d.C w A n xs := Kd.C_below h u.up
theorem uB {g : Nat} {o : Obj} (h : w0.heap[g]? = some o) [u : Up w0 w] : w.heap[g]? = some o := blk_below h u.up
theorem uH (h : Below w1.heap.size w1 w0) [u : UpS w1.heap.size w0 w] : Below w1.heap.size w1 w := u.up rfl h
theorem zA {p : Prop} (h : p) : Aside0 p := Aside0.mk h
theorem xB {g : Nat} {o : Obj} (h : Aside0 (w0.heap[g]? = some o)) (hb : Below w.heap.size w w1) [u : Up w0 w] : Aside0 (w1.heap[g]? = some o) := zA (blk_below (blk_below h.out u.up) hb)
theorem xR (h : Aside0 (d.R e w0 base ok v xs)) (hb : Below w.heap.size w w1) [u : Up w0 w] : Aside0 (d.R e w1 base ok v xs) := zA (Kd.R_below (Kd.R_below h.out u.up) hb)
theorem xH {W : World} (h : Aside0 (Below W.heap.size W w0)) (hb : Below w.heap.size w w1) [u : UpS W.heap.size w0 w] : Aside0 (Below W.heap.size W w1) := zA (below_step (u.up rfl h.out) hb)
theorem neL {g : Nat} {o : Obj} (h : Aside0 (w0.heap[g]? = some o)) [u : Up w0 w] : g ≠ w.heap.size := Nat.ne_of_lt (blk_lt (blk_below h.out u.up))
theorem neG {g : Nat} {o : Obj} (h : Aside0 (w0.heap[g]? = some o)) [u : Up w0 w] : w.heap.size ≠ g := Nat.ne_of_gt (blk_lt (blk_below h.out u.up))
end
section
variable {α β : Type} {f : α → β} {x a : α} {l : List α} {i : Nat}
theorem la : Array.map f l.toArray = (l.map f).toArray := List.map_toArray
theorem lb : List.map f (a :: l) = f a :: List.map f l := List.map_cons
theorem lc : List.map f [] = [] := List.map_nil
theorem ld : (l.drop i).length = l.length - i := List.length_drop
theorem le : (l.take i).length = min i l.length := List.length_take
theorem ls (l : List α) (i : Nat) (a : α) : l.toArray.setIfInBounds i a = (l.set i a).toArray := List.setIfInBounds_toArray l i a
theorem lz : (x :: l).set 0 a = a :: l := List.set_cons_zero
theorem ln : (x :: l).set (i + 1) a = x :: l.set i a := List.set_cons_succ
end
/-- What copy(xs, ys) makes of xs. -/
def cpy (xs ys : List Int) : List Int := ys.take (min ys.length xs.length) ++ xs.drop (min ys.length xs.length)
section
variable {P : Program} {ops : Array Oper} {rest : List Oper} {o : Oper} {a : Act} {Q : Exit → Act → World → Prop}
theorem R_copy_int {k : IntKind} {w0 W : World} (base : Nat) (hgd : o.guard = none) (s x : Operand) (t t' e : TypeId)
    (ho : o.op = .call { callee := .builtin .copy, args := #[s, x], argTypes := #[t, t'] }) (ht : P.underlying t = some (.slice e)) (z : Value) (bytes : Nat) (hinfo : (P.info? e).map (fun i => (i.zero, i.size, i.bytes)) = some (some z, 1, bytes))
    (v : Value) (xs ys : List Int) (A : Option Addr) (m c : Nat) (ok : Nat → Prop) (hs : a.eval s = v) (hx : a.eval x = .slice A m c)
    (HO : (Kd.int k).R e W base ok v xs) (HR : (Kd.int k).C W A m ys) (HB : Below base w0 W) (hbase : base ≤ W.heap.size)
    (h : ∀ w1, (Kd.int k).R e w1 base ok v (cpy xs ys) → Below base w0 w1 → W.grownBy w1 v.ownBlock → (v.ownBlock = v.ownBlock ∨ ∃ b, v.ownBlock = some b ∧ W.heap.size ≤ b) → wpList P ops Q rest (a.put o.dst (.int .i64 ((min m xs.length : Nat) : Int))) w1) :
    wpList P ops Q (o :: rest) a W := by
  have hm : ys.length = m := Kd.C_len HR
  subst hm
  have hi : (P.info? e).map (·.size) = some 1 := by
    obtain ⟨i0, hi, hz⟩ := Option.map_eq_some_iff.1 hinfo
    simp only [Prod.mk.injEq] at hz
    rw [hi, Option.map_some, hz.2.1]
  exact Kd.R_copy (h1 := fun _ => rfl) (0 : Int) base hgd s x t t' e ho ht hi v xs ys A ys.length c ok hs hx HO HR HB hbase (fun w1 h1 h2 h3 => h w1 h1 h2 h3 (.inl rfl))
end
attribute [local go_sem] max2_int min2_int max_two min_two max_three min_three max_four min_four   -- for this text's walks alone
set_option linter.unusedVariables false
set_option linter.unusedSimpArgs false
def errW : Option Int → Value
  | none => .nilIface
  | some c => .iface 0 (.int .i64 c)
theorem errW_none : errW none = .nilIface := rfl
theorem errW_some (c : Int) : errW (some c) = .iface 0 (.int .i64 c) := rfl

theorem info2 : (Try.prog.info? 2).map (fun i => (i.zero, i.size, i.bytes)) = some (some (.int .i64 0), 1, 8) := by kernel_rfl
theorem info22 : (Try.prog.info? 22).map (fun i => (i.zero, i.size, i.bytes)) = some (some (.slice none 0 0), 1, 24) := by kernel_rfl
-- the values' own types
def rd_L1 (xs : List (List Int)) (i : Int) : (List Int) := xs.getD i.toNat ([] : List Int)
theorem at_L1 {w : World} {A : Option Addr} {n : Nat} {xs : List (List Int)} (h : Kd.C (Kd.slice 2 (Kd.int .i64)) w A n xs) (i : Int) (h0 : 0 ≤ i) (h1 : i < n) : ∃ ad A0 c0, A = some ad ∧ w.cell? (ad.add i.toNat) = some (.slice A0 (rd_L1 xs i).length c0) ∧ (rd_L1 xs i).length ≤ c0 ∧ (Kd.int .i64).C w A0 (rd_L1 xs i).length (rd_L1 xs i) := by
  obtain ⟨ad, c, e, _, hK, hc0⟩ := Kd.C_get h ([] : List Int) i h0 h1
  have hc : ∀ j u, c[j]? = some u → w.cell? (ad.add (i.toNat * 1 + j)) = some u := hc0
  obtain ⟨A0, c0, rfl, l0, g0⟩ := hK
  exact ⟨ad, A0, c0, e, by have hq := hc 0 _ rfl; rwa [Nat.mul_one, Nat.add_zero] at hq, l0, g0⟩

def rd_L3 (xs : List (List (List Int))) (i : Int) : (List (List Int)) := xs.getD i.toNat ([] : List (List Int))
theorem at_L3 {w : World} {A : Option Addr} {n : Nat} {xs : List (List (List Int))} (h : Kd.C (Kd.slice 22 (Kd.slice 2 (Kd.int .i64))) w A n xs) (i : Int) (h0 : 0 ≤ i) (h1 : i < n) : ∃ ad A0 c0, A = some ad ∧ w.cell? (ad.add i.toNat) = some (.slice A0 (rd_L3 xs i).length c0) ∧ (rd_L3 xs i).length ≤ c0 ∧ (Kd.slice 2 (Kd.int .i64)).C w A0 (rd_L3 xs i).length (rd_L3 xs i) := by
  obtain ⟨ad, c, e, _, hK, hc0⟩ := Kd.C_get h ([] : List (List Int)) i h0 h1
  have hc : ∀ j u, c[j]? = some u → w.cell? (ad.add (i.toNat * 1 + j)) = some u := hc0
  obtain ⟨A0, c0, rfl, l0, g0⟩ := hK
  exact ⟨ad, A0, c0, e, by have hq := hc 0 _ rfl; rwa [Nat.mul_one, Nat.add_zero] at hq, l0, g0⟩
/-! ### impl_length_int64: function 50 -/
def impl_length_int64.f (l0 : List Int) : Option (Int) := some (l0.length : Int)
set_option maxHeartbeats 8000000 in
set_option maxRecDepth 100000 in
theorem impl_length_int64.calls (A0 : Option Addr) (c0 : Nat) (l0 : List Int) (r : Int) (w : World) (hr0 : Kd.C (Kd.int .i64) w A0 l0.length l0) (hc0 : l0.length ≤ c0) (h : impl_length_int64.f l0 = some r) :
  Calls Try.prog 50 #[.slice A0 l0.length c0] w fun e w' => e = .returned (.int .i64 r) ∧ Drawn0 w w' := by
 have HR0 := zA hr0
 have HC0 := zA hc0
 clear hr0 hc0
 have H : (some (l0.length : Int)) = some r := h
 clear h
 obtain rfl := Option.some.inj H
 go_enter Try.func50, Try.ntmps50
 go_wp2
 go_ret
 exact ⟨by first | rfl | (simp; done) | (simp [*]; done), by repeat (first | exact Drawn0.refl _ | apply Drawn0.step)⟩
/- Cuts of a row of numbers, with what they read. -/
section
variable {l m : List Int} {j : Int} {A : Option Addr} {c : Nat}
theorem takeC {W : World} (h : m = l.take j.toNat) (hj : j ≤ (l.length : Int)) (hC : Kd.C (Kd.int .i64) W A l.length l) : Kd.C (Kd.int .i64) W A m.length m := by
  subst h
  exact Kd.C_take hC (by omega)
theorem takeLe (h : m = l.take j.toNat) (hc : l.length ≤ c) : m.length ≤ c := by
  subst h
  rw [List.length_take]; omega
theorem cut_take (h : m = l.take j.toNat) (h0 : 0 ≤ j) (hj : j ≤ (l.length : Int)) (hc : l.length ≤ c) (A : Option Addr) :
    ∀ W : World, (Instr.slice 22 (.slice A l.length c) none (some (.int .i64 j)) none).run Try.prog W = .ok (.slice A m.length c) W := by
  have e : m.length = j.toNat := by rw [h, List.length_take]; omega
  rw [e]
  obtain ⟨i, hi, _⟩ := info_parts info2
  exact cut_to 22 2 .i64 Try.underlying22 hi A l.length c j h0 hj hc
theorem cut_drop (h : m = l.drop j.toNat) (h0 : 0 ≤ j) (hj : j ≤ (l.length : Int)) (hc : l.length ≤ c) (A : Option Addr) :
    ∃ (AC : Option Addr) (cC : Nat), m.length ≤ cC ∧ (∀ W : World, (Instr.slice 22 (.slice A l.length c) (some (.int .i64 j)) none none).run Try.prog W = .ok (.slice AC m.length cC) W) ∧
      ∀ W : World, Kd.C (Kd.int .i64) W A l.length l → Kd.C (Kd.int .i64) W AC m.length m := by
  have e : m.length = l.length - j.toNat := by rw [h, List.length_drop]
  obtain ⟨i, hi, _, hs, _⟩ := info_parts info2
  refine ⟨if c = j.toNat then A else A.map (·.add (j.toNat * 1)), c - j.toNat, by omega, ?_, fun W hC => ?_⟩
  · rw [e]
    exact cut_from 22 2 .i64 Try.underlying22 hi 1 hs A l.length c j h0 hj
  · subst h
    exact Kd.C_drop hC (by omega) hc
end
/- impl.ruleOf: the rule whose nodes are a map's keys in their order, by hand: maps.Keys and slices.Sorted by the library's contracts. -/
open Go Go.RowKit Go.Maps Go.Proofs.YtjdannndpfkadaaW.PrintWords Go.Proofs.YtjdannndpfkadaaW.PrintLast Go.Proofs.YtjdannndpfkadaaW.PrintMore
theorem keyed2 : Keyed Try.prog 2 := int_keyed Try.underlying2
theorem zeroI (w : World) : (zeroValue 2).run Try.prog w = .ok (.int .i64 0) w := by kernel_rfl
abbrev OM (w : World) (b nn : Nat) (es : List (Int × Int)) : Prop := w.ownsMap Try.prog 2 (plainElem Try.prog 2) b nn (mapD es)
theorem OM.move {w w1 : World} {b nn : Nat} {es : List (Int × Int)} (h : OM w b nn es) (hm : w1.heap[b]? = w.heap[b]?) : OM w1 b nn es := by
  obtain ⟨es', clock, hb, r⟩ := h
  exact ⟨es', clock, hm.trans hb, r⟩
theorem OM.below {w w1 : World} {b nn : Nat} {es : List (Int × Int)} (h : OM w b nn es) (hb : Below w.heap.size w w1) : OM w1 b nn es := h.move (hb.block b h.lt)
theorem OM.drewN {w : World} {b nn : Nat} {es : List (Int × Int)} (h : OM w b nn es) (m : Nat) : OM (w.drewN m) b nn es := h.below (pw_below_drewN (Below.refl _ _) m)
theorem OM.far {w : World} {b nn : Nat} {es : List (Int × Int)} (h : OM w b nn es) {p : Addr} (hp : b ≠ p.block) (u : Value) : OM (w.setCell p u) b nn es := h.move (Below.heap_setCell w p u b hp)
theorem OM.neR {w : World} {b nn base : Nat} {es : List (Int × Int)} (h : OM w b nn es) {ok : Nat → Prop} {v : Value} {xs : List Int} (hR : Kd.R (Kd.int .i64) 2 w base ok v xs) : some b ≠ v.ownBlock := fun e => by
  obtain ⟨es', clock, hb, _⟩ := h
  obtain ⟨cells, hc⟩ := Kd.R_typed hR b e.symm
  rw [hb] at hc
  cases hc
theorem OM.neB {w : World} {b nn g t : Nat} {es : List (Int × Int)} (h : OM w b nn es) {cs : Array Value} (hg : w.heap[g]? = some (.cells cs t (0, 0))) : b ≠ g := fun e => by
  obtain ⟨es', clock, hb, _⟩ := h
  subst e
  rw [hb] at hg
  cases hg

theorem iterSorts (m : Nat) : AnyZI.SortsIn Try.prog iterSorted_ren Fence.wide m :=
  ⟨fun blk off cap ss W hH hblk hsz => callsIn_wide.2 (AnyM.slices_Sort_int iterSort blk off cap ss W hH hblk hsz),
   fun p cap W => callsIn_wide.2 (AnyM.slices_Sort_int_none iterSort p cap W)⟩
theorem keys_calls (mb : Option Nat) (W : World) : Calls Try.prog 75 #[.map mb] W fun e w' => e = .returned (.func (.func 89) #[] #[.pointer (some ⟨W.heap.size, 0, none⟩)]) ∧ w' = W.alloc (.cells #[.map mb] 80) :=
  (callsIn_wide (n := 5)).1 (AnyZI.keys_in iterKeys Fence.wide 5 trivial rfl mb W)
theorem sorted_calls {b nn : Nat} {es : List (Int × Int)} {W : World} (hown : OM W b nn es) (ha : Asc es) (hl : es.length ≤ 1000) :
    Calls Try.prog 74 #[.func (.func 89) #[] #[.pointer (some ⟨W.heap.size, 0, none⟩)]] (W.alloc (.cells #[.map (some b)] 80)) fun e w' =>
      ∃ v, e = .returned v ∧ Kd.R (Kd.int .i64) 2 w' (W.alloc (.cells #[.map (some b)] 80)).heap.size (fun _ => True) v (es.map Prod.fst) ∧ Below (W.alloc (.cells #[.map (some b)] 80)).heap.size (W.alloc (.cells #[.map (some b)] 80)) w' := by
  have hbl := hown.lt
  have hseq : SeqGives Fence.wide 2 Try.prog 89 #[.pointer (some ⟨W.heap.size, 0, none⟩)] encZ (fun ss => ss.Perm (intKeys (mapD es))) (Maps.size (mapD es)) (W.alloc (.cells #[.map (some b)] 80)) :=
    AnyZI.keys_gives (ρ := iterKeys_ren) { iterKeys with } Fence.wide _ trivial rfl (by omega) W.heap.size b nn (mapD es) _ (by simp) (by simp) (OM.move hown (Below.heap_alloc _ _ b hbl))
  have cS := AnyZI.sorted_in iterSorted Fence.wide 5 trivial trivial trivial trivial rfl (by omega) (iterSorts _) (enters_of Try.func88 (by kernel_rfl) rfl) 89 #[.pointer (some ⟨W.heap.size, 0, none⟩)] trivial (enters_of Try.func89 (by kernel_rfl) rfl) _ _ (by rw [mapD_size]; unfold maxLen; omega) (by rw [mapD_size]; omega) _ hseq
  change CallsIn _ _ Try.prog 74 _ _ _ at cS
  refine ((callsIn_wide (n := 5)).1 cS).mono ?_
  rintro e w' ⟨v, ss, rfl, hS, hrow, _, hb⟩
  refine ⟨v, rfl, ?_, hb⟩
  rw [mapD_keys] at hS
  have hlen : ss.length = (es.map Prod.fst).length := hS.length_eq
  rw [show ss.mergeSort (fun x y => decide (x ≤ y)) = es.map Prod.fst from sorted_keys ha hS, hlen] at hrow
  exact Kd.R_of_own hrow (fun _ _ => trivial)
/- Short steps of a walk through a region whose order is drawn (each stands for a row that the print spells out); no condition. -/
/-- The lowest n bits of m. -/
def bq : Nat → Nat → List Bool
  | 0, _ => []
  | n + 1, m => (m % 2 == 1) :: bq n (m / 2)
def bl (n m : Nat) : Array Bool := ⟨bq n m⟩
section
variable {P : Program} {ops : Array Oper} {Q : Exit → Act → World → Prop} {S : World → Prop} {ds : List Nat} {T : Bool × List (List Nat × List Nat)} {B : List Nat} {fuel : Nat} {l : Array Bool} {a a' : Act} {w : World} {oi : Oper} {v : Value}
theorem pu_ (i : Nat) (N : Tmp) (l' : Array Bool) (HT : Aside0 (rtab .any ops = T)) (h : wpAnyLast P .any ops Q S ds fuel l' a' w)
    (hi : ops[i]? = some oi := by rfl) (hN : oi.dst = some N := by rfl) (hc : anyT T l.toList l'.toList i = true := by kernel_rfl)
    (hQ : ∀ c a w, Q (.panic c) (a.put oi.dst v) w → Q (.panic c) a w := by exact fun _ _ _ h => h)
    (hy : Yields P ops oi v a := by exact Or.inl ⟨by rfl, by intro w'; go_simp; with_reducible rfl⟩)
    (ha : a.put (some N) v = a' := by (simp only [Act.put, ls, lz, ln, i64_w, i32_w]; rfl)) : wpAnyLast P .any ops Q S ds (fuel + 1) l a w :=
  pure_ l' hi hN (any_of HT.out hc) hQ hy ha h
theorem un_ (i : Nat) (N : Tmp) (l' : Array Bool) (HT : Aside0 (rtab .any ops = T)) (h : wpAnyLast P .any ops Q S ds fuel l' a' w)
    (hi : ops[i]? = some oi := by rfl) (hN : oi.dst = some N := by rfl) (hc : anyT T l.toList l'.toList i = true := by kernel_rfl)
    (hQ : ∀ c a w, Q (.panic c) (a.put oi.dst undef) w → Q (.panic c) a w := by exact fun _ _ _ h => h)
    (hy : Yields P ops oi undef a := by exact Or.inr ⟨by rfl, rfl⟩)
    (ha : a.put (some N) undef = a' := by (simp only [Act.put, ls, lz, ln, i64_w, i32_w]; rfl)) : wpAnyLast P .any ops Q S ds (fuel + 1) l a w :=
  pure_ l' hi hN (any_of HT.out hc) hQ hy ha h
theorem ta_ (i : Nat) (N : Tmp) (l' : Array Bool) (HT : Aside0 (rtab .any ops = T)) (HW : Aside0 (waitsOk T.2 B = true)) (hS : S w) (h : wpAnyLast P .any ops Q S ds fuel l' a' w)
    (hi : ops[i]? = some oi := by rfl) (hN : oi.dst = some N := by rfl) (hc : takeW T B ds l.toList l'.toList i = true := by kernel_rfl)
    (hQ : ∀ c a w, Q (.panic c) (a.put oi.dst v) w → Q (.panic c) a w := by exact fun _ _ _ h => h)
    (hy : YieldsIf P ops S oi v a := by exact Or.inl ⟨by rfl, by intro w' hs; go_simp; with_reducible rfl⟩)
    (ha : a.put (some N) v = a' := by (simp only [Act.put, ls, lz, ln, i64_w, i32_w]; rfl)) : wpAnyLast P .any ops Q S ds (fuel + 1) l a w :=
  take_ l' hi hN (take_ofW HT.out HW.out hc) hQ hy hS ha h
theorem on_ (i : Nat) (N : Option Tmp) (l' : Array Bool) (HT : Aside0 (rtab .any ops = T))
    (h : ∀ K : Act → World → Prop, Shut (∀ a' w', S w' → (S w' → wpAnyLast P .any ops Q S ds fuel l' a' w') → K a' w') → if Region.wanted oi (yielded ops a.tmps) = true then Oper.wp P oi a w K Q else K (a.put N undef) w)
    (hi : ops[i]? = some oi := by rfl) (hN : oi.dst = N := by rfl) (hc : (readyT T.2 l.toList == [i] && l.toList.set i true == l'.toList) = true := by kernel_rfl) (hd : i ∉ ds := by decide) : wpAnyLast P .any ops Q S ds (fuel + 1) l a w :=
  one_ l' hi hN (one_of HT.out hc) hd h
theorem no_ {a0 : Act} (N : Tmp) (h : wpAnyLast P .any ops Q S ds fuel l a' w) (ha : a0.put (some N) v = a' := by (simp only [Act.put, ls, lz, ln, i64_w, i32_w]; rfl)) : wpAnyLast P .any ops Q S ds fuel l (a0.put (some N) v) w := norm_ ha h
end
/- impl.ruleOf, walked by hand: the nodes are the map's keys in their order, the weights what the map holds at them. -/
attribute [local go_sem] max2_int min2_int max_two min_two max_three min_three max_four min_four
theorem take_snocI (l : List Int) (i : Nat) (h : i < l.length) : l.take i ++ [rd l (i : Int)] = l.take (i + 1) := by
  rw [List.take_succ_eq_append_getElem h]
  congr 1
  simp [rd, List.getD, h]
/-- What is read at a key, in the order of the keys. -/
theorem at_key {es : List (Int × Int)} (ha : Asc es) {i : Nat} (hi : i < es.length) {c : Int} (hc : (mapD es).atKey (.int .i64 (rd (es.map Prod.fst) (i : Int))) (.lit (.int .i64 0)) = .lit (.int .i64 c)) : c = rd (es.map Prod.snd) (i : Int) := by
  rw [mapD_at] at hc
  have e1 : rd (es.map Prod.fst) (i : Int) = es[i].1 := by simp [rd, List.getD, hi]
  have e2 : rd (es.map Prod.snd) (i : Int) = es[i].2 := by simp [rd, List.getD, hi]
  rw [e1, getZ_at ha (List.getElem_mem hi)] at hc
  injection hc with hc
  injection hc with _ hc
  rw [e2]
  exact hc.symm
set_option maxHeartbeats 8000000 in
set_option maxRecDepth 100000 in
theorem ruleOf_calls (p : Int) (es : List (Int × Int)) (b nn : Nat) (w : World) (hown : OM w b nn es) (ha : Asc es) (hl : es.length ≤ 1000) (hwf : ∀ e ∈ es, (Lit.int .i64 e.1).wf = true) :
    Calls Try.prog 58 #[.int .i64 p, .map (some b)] w fun e w' => ∃ v1_ v2_ : Value, e = .returned (.agg #[.int .i64 p, v1_, v2_]) ∧ Kd.R (Kd.int .i64) 2 w' w.heap.size (fun k_ => some k_ ≠ (v2_ : Value).ownBlock) v1_ (es.map Prod.fst) ∧ Kd.R (Kd.int .i64) 2 w' w.heap.size (fun k_ => some k_ ≠ (v1_ : Value).ownBlock) v2_ (es.map Prod.snd) ∧ Below w.heap.size w w' := by
 have hu51 := Try.underlying51
 have HM := zA hown
 have HAS := zA ha
 have HWF := zA hwf
 clear hown ha hwf
 have HB := zA (Below.refl w.heap.size w)
 obtain ⟨ks, hks⟩ : ∃ ks, ks = es.map Prod.fst := ⟨_, rfl⟩
 obtain ⟨ws, hws⟩ : ∃ ws, ws = es.map Prod.snd := ⟨_, rfl⟩
 have hkl : ks.length = es.length := by rw [hks, List.length_map]
 have hwl : ws.length = es.length := by rw [hws, List.length_map]
 rw [← hks, ← hws]
 have HKS := zA hks
 have HWS := zA hws
 have HKL := zA hkl
 have HWL := zA hwl
 have HL : Aside0 (ks.length ≤ 1000) := ⟨by omega⟩
 have HLL : ks.length ≤ 1000 := HL.out
 clear hks hws hkl hwl hl
 go_enter Try.func58, Try.ntmps58
 go_wp2_with (first | ((with_reducible refine gate_dst (N := 4) rfl ?_); refine box_event ?hg (N := 4) ?hd (cs := #[.int .i64 0, .slice none 0 0, .slice none 0 0]) (t := 51) ?hr ?_; (case hd => rfl); (case hg => rfl); (case hr => first | (go_simp; done) | (go_simp; rfl)); intro gb336 hg w4 hbox hb; have n0_ := xH HB hb; have n1_ := zA (hbox); have n2_ := zA ((by rw [hg]; exact (below_size (uH HB.out)) : w.heap.size ≤ gb336)); have n4_ := zA (HM.out.below hb); clear HB HM; have HB := n0_; have BK336 := n1_; have GE336 := n2_; have HM := n4_; have := geI GE336; clear n0_ n1_ n2_ n4_ hb hbox hg) | ((with_reducible refine gate_callee (f := 75) rfl ?_); refine goesL_ (some 10) rfl rfl Try.func75 (by kernel_rfl) rfl #[.map (some b)] rfl (by (try simp only [la, lb, lc]); first | done | rfl | (simp only [ld, le]; rfl)) ?_; (with_reducible refine (keys_calls (some b) _).mono ?_); rintro e wk ⟨rfl, rfl⟩; refine ⟨_, rfl, ?_⟩) | ((with_reducible refine gate_callee (f := 74) rfl ?_); refine goesL_ (some 11) rfl rfl Try.func74 (by kernel_rfl) rfl #[.func (.func 89) #[] #[.pointer (some ⟨w4.heap.size, 0, none⟩)]] rfl (by (try simp only [la, lb, lc]); first | done | rfl | (simp only [ld, le]; rfl)) ?_; (with_reducible refine (sorted_calls HM.out HAS.out (by have := HL.out; have := HKL.out; omega)).mono ?_); rintro e w5 ⟨v338, rfl, ho0, hb⟩; refine ⟨_, rfl, ?_⟩; rw [← HKS.out] at ho0; have hb2 := (below_alloc (Below.refl w4.heap.size w4) (.cells #[.map (some b)] 80)).trans (hb.mono (by simp)); have n0_ := zA (Kd.R_lower (base' := w.heap.size) ho0 (Nat.le_trans (below_size HB.out) (by simp))); have n1_ := xB BK336 hb2; have n2_ := xH HB hb2; have n3_ := zA (HM.out.below hb2); clear BK336 HB HM; have HO339 := n0_; have BK336 := n1_; have HB := n2_; have HM := n3_; clear n0_ n1_ n2_ n3_ hb2 hb ho0; obtain ⟨Ao6, co6, eo6⟩ := Kd.R_slice HO339.out; subst eo6) | ((with_reducible refine gate_dst (N := 5) rfl ?_); refine box_event ?hg (N := 5) ?hd (cs := #[.int .i64 0, .slice none 0 0, .slice none 0 0]) (t := 51) ?hr ?_; (case hd => rfl); (case hg => rfl); (case hr => first | (go_simp; done) | (go_simp; rfl)); intro gb340 hg w7 hbox hb; have n0_ := xR HO339 hb; have n1_ := xB BK336 hb; have n2_ := xH HB hb; have n3_ := zA (hbox); have n4_ := zA ((by rw [hg]; exact (below_size (uH HB.out)) : w.heap.size ≤ gb340)); have n6_ := zA ((by rw [hg]; exact neL BK336 : gb336 ≠ gb340)); have n7_ := zA ((by rw [hg]; exact neG BK336 : gb340 ≠ gb336)); have n8_ := zA (HM.out.below hb); clear HO339 BK336 HB HM; have HO339 := n0_; have BK336 := n1_; have HB := n2_; have BK340 := n3_; have GE340 := n4_; have HM := n8_; have := geI GE340; have NB336_340 := n6_; have NB340_336 := n7_; clear n0_ n1_ n2_ n3_ n4_ n6_ n7_ n8_ hb hbox hg; have hnb8 := NB340_336.out; have hnc8 := NB336_340.out; have hcz9_0 : w7.cell? ⟨gb340, 0, none⟩ = some (.int .i64 0) := (blk_cell BK340.out 0).trans rfl; have hcz9_1 : w7.cell? ⟨gb340, 1, none⟩ = some (.slice none 0 0) := (blk_cell BK340.out 1).trans rfl; have hcz9_2 : w7.cell? ⟨gb340, 2, none⟩ = some (.slice none 0 0) := (blk_cell BK340.out 2).trans rfl; have hfz9_0 := blk_frozen BK340.out 0; have hfz9_1 := blk_frozen BK340.out 1; have hfz9_2 := blk_frozen BK340.out 2))
 go_loopg [16] (ks.length + 1) (fun kq v16 w' => ∃ (i : Nat) (u : Value), v16 = .int .i64 (i : Int) ∧ Aside0 (kq + i = ks.length + 1 ∧ i ≤ ks.length) ∧ Aside0 (Kd.R (Kd.int .i64) 2 w' w.heap.size (fun k_ => some k_ ≠ (u : Value).ownBlock) (.slice Ao6 ks.length co6) ks) ∧ Aside0 (Kd.R (Kd.int .i64) 2 w' w.heap.size (fun k_ => some k_ ≠ ((.slice Ao6 ks.length co6) : Value).ownBlock) u (ws.take i)) ∧ Aside0 (w'.heap[gb336]? = some (.cells #[.int .i64 0, (.slice none 0 0), (.slice none 0 0)] 51 (0, 0))) ∧ Aside0 (w'.heap[gb340]? = some (.cells #[.int .i64 p, (.slice Ao6 ks.length co6), u] 51 (0, 0))) ∧ Aside0 (OM w' b nn es) ∧ Aside0 (Below w.heap.size w w'))
 case atStart => exact ⟨0, .slice none 0 0, (by first | rfl | (simp; done)), ⟨by omega, by omega⟩, ⟨uR (Kd.R_mono (Kd.R_far (p := ⟨gb340, 2, none⟩) (Kd.R_far (p := ⟨gb340, 1, none⟩) (Kd.R_far (p := ⟨gb340, 0, none⟩) (Kd.R_types HO339.out BK340.out (by decide)) (fun _ hk => hk.2) (.int .i64 p)) (fun _ hk => hk.2) (.slice Ao6 ks.length co6)) (fun _ hk => hk.2) (.slice none 0 0)) (fun _ hk => (by simp [Value.ownBlock])))⟩, ⟨by rw [List.take_zero]; exact Kd.R_nil _ _ _ _ _⟩, ⟨by (with_reducible repeat (first | refine blk_drewN ?_ _ | refine blk_drew ?_ | refine blk_alloc ?_ _)); refine blk_far ?_ NB336_340.out _; (with_reducible repeat (first | refine blk_drewN ?_ _ | refine blk_drew ?_ | refine blk_alloc ?_ _)); refine blk_far ?_ NB336_340.out _; (with_reducible repeat (first | refine blk_drewN ?_ _ | refine blk_drew ?_ | refine blk_alloc ?_ _)); refine blk_far ?_ NB336_340.out _; (with_reducible repeat (first | refine blk_drewN ?_ _ | refine blk_drew ?_ | refine blk_alloc ?_ _)); exact BK336.out⟩, ⟨by (with_reducible repeat (first | refine blk_drewN ?_ _ | refine blk_drew ?_ | refine blk_alloc ?_ _)); refine blk_put (cs := #[.int .i64 p, .slice Ao6 ks.length co6, .slice none 0 0]) ?_ 2 _ rfl; (with_reducible repeat (first | refine blk_drewN ?_ _ | refine blk_drew ?_ | refine blk_alloc ?_ _)); refine blk_put (cs := #[.int .i64 p, .slice none 0 0, .slice none 0 0]) ?_ 1 _ rfl; (with_reducible repeat (first | refine blk_drewN ?_ _ | refine blk_drew ?_ | refine blk_alloc ?_ _)); refine blk_put (cs := #[.int .i64 0, .slice none 0 0, .slice none 0 0]) ?_ 0 _ rfl; (with_reducible repeat (first | refine blk_drewN ?_ _ | refine blk_drew ?_ | refine blk_alloc ?_ _)); exact BK340.out⟩, ⟨((HM.out.far (HM.out.neB BK340.out) _).far (HM.out.neB BK340.out) _).far (HM.out.neB BK340.out) _⟩, ⟨uH HB.out⟩⟩
 case round =>
  clear HM HO339 BK336 BK340 HB
  try clear hcz9_0
  try clear hcz9_1
  try clear hcz9_2
  try clear hfz9_0
  try clear hfz9_1
  try clear hfz9_2
  obtain ⟨i, u, rfl, HI, HO_14, HO_W, BK336, BK340, HM, HB⟩ := hrel
  by_cases c10 : i < ks.length
  · have hr : Aside0 (∀ c : Int, (mapD es).atKey (.int .i64 (rd ks (i : Int))) (.lit (.int .i64 0)) = .lit (.int .i64 c) → c = rd ws (i : Int)) := ⟨fun c hc => by
      rw [HKS.out] at hc
      rw [HWS.out]
      exact at_key HAS.out (by have := HKL.out; omega) hc⟩
    have hkey : keyOf Try.prog 2 (.int .i64 (rd ks (i : Int))) = some (.int .i64 (rd ks (i : Int))) := keyOf_int_mk Try.underlying2 (by
      have h1 : rd ks (i : Int) ∈ ks := by rw [rd, show ((i : Int)).toNat = i from rfl, List.getD_eq_getElem?_getD, List.getElem?_eq_getElem c10]; exact List.getElem_mem c10
      have h2 := HKS.out ▸ h1
      obtain ⟨e, he, h3⟩ := List.mem_map.1 h2
      have h4 := HWF.out e he
      rw [h3, ← HKS.out] at h4
      exact h4)
    have HKEY := zA hkey
    clear hkey
    have c10b0 : decide ((i : Int) < (ks.length : Int)) = true := decide_eq_true (by omega)
    obtain ⟨tk, htk⟩ : ∃ tk, tk = ws.take (i + 1) := ⟨_, rfl⟩
    have HTK := zA htk
    clear htk
    have hsn : Aside0 (ws.take i ++ [rd ws (i : Int)] = tk) := ⟨(take_snocI ws i (by have := HWL.out; have := HKL.out; omega)).trans HTK.out.symm⟩
    have hlen : Aside0 ((ws.take i).length ≤ 1000) := ⟨by rw [List.length_take]; have := HL.out; omega⟩
    obtain ⟨ad341, e341, hx341_0⟩ := Kd.at_int (Kd.R_reads' HO_14.out).2.2 (i : Int) (by omega) (by omega)
    cases e341
    have hx341 : wr.cell? (ad341.add i) = some (.int .i64 (rd ks (i : Int))) := hx341_0
    clear hx341_0
    have p341 : (0 ≤ (i : Int)) = True := eq_true (by omega)
    have q341 : ((i : Int) < (ks.length : Int)) = True := eq_true (by omega)
    have hcz15_0 : wr.cell? ⟨gb340, 0, none⟩ = some (.int .i64 p) := (blk_cell BK340.out 0).trans rfl
    have hcz15_1 : wr.cell? ⟨gb340, 1, none⟩ = some (.slice (some ad341) ks.length co6) := (blk_cell BK340.out 1).trans rfl
    have hcz15_2 : wr.cell? ⟨gb340, 2, none⟩ = some u := (blk_cell BK340.out 2).trans rfl
    have hfz15_0 := blk_frozen BK340.out 0
    have hfz15_1 := blk_frozen BK340.out 1
    have hfz15_2 := blk_frozen BK340.out 2
    go_wp2_with (first | (at_lookup; refine wpList_lookup_own_int _ rfl _ _ 80 rfl 2 2 .i64 keyed2 Try.underlying80 Try.underlying2 (zeroI _) b nn _ rfl HM.out _ _ rfl HKEY.out ?_; intro c hat hwc; obtain rfl := hr.out _ hat; clear hat hwc) | ((with_reducible refine gate_builtin (b := .append) (xs := #[.tmp 21, .tmp 25]) rfl ?_); at_builtin; refine Kd.R_append (Kd.int .i64) (w0 := w) w.heap.size rfl (.tmp 21) (.tmp 25) 22 2 (.int .i64 0) 8 rfl Try.underlying22 info2 rfl (by decide) (by omega) u (ws.take i) (rd ws (i : Int)) [.int .i64 (rd ws (i : Int))] (fun k_ => some k_ ≠ (.slice (some ad341) ks.length co6 : Value).ownBlock) (fun _ => False) rfl rfl ?aP (fun _ hk => hk.elim) ?aF ?aO ?aB ?aS ?aL ?_; (case aP => exact rfl); (case aB => exact (uH HB.out)); (case aF => exact (fun k_ hk => Kd.fresh' (Kd.R_lt (uR HO_14.out)) k_ hk)); (case aO => exact (uR HO_W.out)); (case aS => exact (below_size (uH HB.out))); (case aL => have := hlen.out; omega); intro v343 w16 ho hb hg hat; rw [hsn.out] at ho; have n0_ := zA (Kd.R_after (ok := (fun _ => True)) (uR (Kd.R_mono HO_14.out (fun _ hk => ⟨trivial, hk⟩))) hg hat); have n2_ := zA (blk_grown (g := gb336) (o := .cells #[.int .i64 0, .slice none 0 0, .slice none 0 0] 51 (0, 0)) (uB BK336.out) hg (Kd.R_ne HO_W.out BK336.out (by decide))); have n3_ := zA (blk_grown (g := gb340) (o := .cells #[.int .i64 p, .slice (some ad341) ks.length co6, u] 51 (0, 0)) (uB BK340.out) hg (Kd.R_ne HO_W.out BK340.out (by decide))); have n4_ := zA (hb); have n5_ := zA (ho); have n6_ := zA (OM.move HM.out (hg.block b HM.out.lt (HM.out.neR HO_W.out))); clear HO_14 BK336 BK340 HB HO_W HM; have HO_14 := n0_; have BK336 := n2_; have BK340 := n3_; have HB := n4_; have HO344 := n5_; have HM := n6_; clear n0_ n2_ n3_ n4_ n5_ n6_ ho hb hg hat; obtain ⟨Ao17, co17, eo17⟩ := Kd.R_slice HO344.out; subst eo17; have hcz18_0 : w16.cell? ⟨gb340, 0, none⟩ = some (.int .i64 p) := (blk_cell BK340.out 0).trans rfl; have hcz18_1 : w16.cell? ⟨gb340, 1, none⟩ = some (.slice (some ad341) ks.length co6) := (blk_cell BK340.out 1).trans rfl; have hcz18_2 : w16.cell? ⟨gb340, 2, none⟩ = some u := (blk_cell BK340.out 2).trans rfl; have hfz18_0 := blk_frozen BK340.out 0; have hfz18_1 := blk_frozen BK340.out 1; have hfz18_2 := blk_frozen BK340.out 2))
    go_roundg (ks.length - i)
    case measure => have := HI.out; omega
    case rel => exact ⟨i + 1, (.slice Ao17 tk.length co17), (by first | rfl | (rw [wrap64_id' i]; done) | (simp; done) | (simp [*]; done)), ⟨by have := HI.out; omega, by omega⟩, ⟨uR (Kd.R_mono (Kd.R_far (p := ⟨gb340, 2, none⟩) (Kd.R_types HO_14.out BK340.out (by decide)) (fun _ hk => hk.2) (.slice Ao17 tk.length co17)) (fun _ hk => hk.1.2))⟩, ⟨by rw [← HTK.out]; exact uR (Kd.R_mono (Kd.R_far (p := ⟨gb340, 2, none⟩) (Kd.R_types HO344.out BK340.out (by decide)) (fun _ hk => hk.2) (.slice Ao17 tk.length co17)) (fun _ hk => hk.1))⟩, ⟨by (with_reducible repeat (first | refine blk_drewN ?_ _ | refine blk_drew ?_ | refine blk_alloc ?_ _)); refine blk_far ?_ NB336_340.out _; (with_reducible repeat (first | refine blk_drewN ?_ _ | refine blk_drew ?_ | refine blk_alloc ?_ _)); exact BK336.out⟩, ⟨by (with_reducible repeat (first | refine blk_drewN ?_ _ | refine blk_drew ?_ | refine blk_alloc ?_ _)); refine blk_put (cs := #[.int .i64 p, .slice (some ad341) ks.length co6, u]) ?_ 2 _ rfl; (with_reducible repeat (first | refine blk_drewN ?_ _ | refine blk_drew ?_ | refine blk_alloc ?_ _)); exact BK340.out⟩, ⟨HM.out.far (HM.out.neB BK340.out) _⟩, ⟨uH HB.out⟩⟩
  · have c10b0 : decide ((i : Int) < (ks.length : Int)) = false := decide_eq_false (by omega)
    have ei : Aside0 (ws.take i = ws) := ⟨List.take_of_length_le (by have := HWL.out; have := HKL.out; omega)⟩
    rw [ei.out] at HO_W
    have hcz20_0 : wr.cell? ⟨gb340, 0, none⟩ = some (.int .i64 p) := (blk_cell BK340.out 0).trans rfl
    have hcz20_1 : wr.cell? ⟨gb340, 1, none⟩ = some (.slice Ao6 ks.length co6) := (blk_cell BK340.out 1).trans rfl
    have hcz20_2 : wr.cell? ⟨gb340, 2, none⟩ = some u := (blk_cell BK340.out 2).trans rfl
    have hfz20_0 := blk_frozen BK340.out 0
    have hfz20_1 := blk_frozen BK340.out 1
    have hfz20_2 := blk_frozen BK340.out 2
    have hcz21_0 : wr.cell? ⟨gb336, 0, none⟩ = some (.int .i64 0) := (blk_cell BK336.out 0).trans rfl
    have hcz21_1 : wr.cell? ⟨gb336, 1, none⟩ = some (.slice none 0 0) := (blk_cell BK336.out 1).trans rfl
    have hcz21_2 : wr.cell? ⟨gb336, 2, none⟩ = some (.slice none 0 0) := (blk_cell BK336.out 2).trans rfl
    have hfz21_0 := blk_frozen BK336.out 0
    have hfz21_1 := blk_frozen BK336.out 1
    have hfz21_2 := blk_frozen BK336.out 2
    obtain ⟨Ao22, co22, eo22⟩ := Kd.R_slice HO_W.out
    subst eo22
    go_wp2
    refine bodyPost_ret (results_cell_row rfl _ _ gb336 51 #[.int .i64 p, .slice Ao6 ks.length co6, .slice Ao22 ws.length co22] (0, 0) _ rfl (by (with_reducible repeat (first | refine blk_drewN ?_ _ | refine blk_drew ?_ | refine blk_alloc ?_ _)); refine blk_put (cs := #[.int .i64 p, .slice Ao6 ks.length co6, .slice none 0 0]) ?_ 2 _ rfl; (with_reducible repeat (first | refine blk_drewN ?_ _ | refine blk_drew ?_ | refine blk_alloc ?_ _)); refine blk_put (cs := #[.int .i64 p, .slice none 0 0, .slice none 0 0]) ?_ 1 _ rfl; (with_reducible repeat (first | refine blk_drewN ?_ _ | refine blk_drew ?_ | refine blk_alloc ?_ _)); refine blk_put (cs := #[.int .i64 0, .slice none 0 0, .slice none 0 0]) ?_ 0 _ rfl; (with_reducible repeat (first | refine blk_drewN ?_ _ | refine blk_drew ?_ | refine blk_alloc ?_ _)); exact BK336.out) Try.underlying51 rfl (by kernel_rfl)) rfl ?_
    exact ⟨_, _, rfl, uR (Kd.R_mono (Kd.R_far (p := ⟨gb336, 2, none⟩) (Kd.R_far (p := ⟨gb336, 1, none⟩) (Kd.R_far (p := ⟨gb336, 0, none⟩) (Kd.R_types HO_14.out BK336.out (by decide)) (fun _ hk => hk.2) (.int .i64 p)) (fun _ hk => hk.2) (.slice Ao6 ks.length co6)) (fun _ hk => hk.2) (.slice Ao22 ws.length co22)) (fun _ hk => hk.1)), uR (Kd.R_mono (Kd.R_far (p := ⟨gb336, 2, none⟩) (Kd.R_far (p := ⟨gb336, 1, none⟩) (Kd.R_far (p := ⟨gb336, 0, none⟩) (Kd.R_types HO_W.out BK336.out (by decide)) (fun _ hk => hk.2) (.int .i64 p)) (fun _ hk => hk.2) (.slice Ao6 ks.length co6)) (fun _ hk => hk.2) (.slice Ao22 ws.length co22)) (fun _ hk => hk.1)), uH HB.out⟩
/- A map of numbers that the call itself made: made, written, read, its rule taken; as steps of a walk. -/
def wfI (k : Int) : Bool := (Lit.int .i64 k).wf
def mput (es : List (Int × Int)) (k v : Int) : Option (List (Int × Int)) := if es.length < 900 then (if wfI k = true then (if wfI v = true then some (putZ es k v) else none) else none) else none
def mrule (p : Int) (es : List (Int × Int)) : Option (Int × List Int × List Int) := some (p, es.map Prod.fst, es.map Prod.snd)
theorem mput_some {es es' : List (Int × Int)} {k v : Int} (h : mput es k v = some es') : es.length < 900 ∧ wfI k = true ∧ wfI v = true ∧ es' = putZ es k v := by
  unfold mput at h
  split at h
  · split at h
    · split at h
      · exact ⟨‹_›, ‹_›, ‹_›, (Option.some.inj h).symm⟩
      · cases h
    · cases h
  · cases h
structure MapOK (w : World) (base : Nat) (v : Value) (es : List (Int × Int)) : Prop where
  mk ::
  out : ∃ b, v = .map (some b) ∧ base ≤ b ∧ OM w b es.length es
  asc : Asc es
  len : es.length ≤ 900
  wf : ∀ e ∈ es, wfI e.1 = true
section
variable {w w1 : World} {base b g : Nat} {v : Value} {es es' : List (Int × Int)}
theorem OM.size {w : World} {b nn : Nat} {es : List (Int × Int)} (h : OM w b nn es) : OM w b es.length es := by
  obtain ⟨es1, clock, hb, F, hs, hD⟩ := h
  refine ⟨es1, clock, hb, F, ?_, hD⟩
  have h1 := congrArg Maps.size hD
  rw [mapD_size] at h1
  have h2 : Maps.size (DataW.map ((es1.toList.map (WideElems.rg Try.prog 2 (plainElem (H := Unit) Try.prog 2))).foldr DataW.insert [])) = es1.size := by
    rw [Maps.size, length_sorted, List.length_map, Array.length_toList]
  rw [h2] at h1
  omega
theorem MapOK.form (h : MapOK w base v es) : ∃ b, v = .map (some b) := by
  obtain ⟨b, hv, _⟩ := h.out
  exact ⟨b, hv⟩
theorem MapOK.om (h : MapOK w base (.map (some b)) es) : base ≤ b ∧ OM w b es.length es := by
  obtain ⟨b', hv, h1⟩ := h.out
  cases hv
  exact h1
theorem MapOK.below (h : MapOK w base v es) (hb : Below w.heap.size w w1) : MapOK w1 base v es := by
  obtain ⟨⟨b, hv, h1, h2⟩, h3, h4, h5⟩ := h
  exact ⟨⟨b, hv, h1, h2.below hb⟩, h3, h4, h5⟩
theorem MapOK.drew (h : MapOK w base v es) : MapOK w.drew base v es := h.below (below_drew (Below.refl _ _))
theorem MapOK.drewN (h : MapOK w base v es) (m : Nat) : MapOK (w.drewN m) base v es := h.below (pw_below_drewN (Below.refl _ _) m)
theorem MapOK.neB (h : MapOK w base (.map (some b)) es) {t : Nat} {cs : Array Value} (hg : w.heap[g]? = some (.cells cs t (0, 0))) : some g ≠ some b := fun e => by
  injection e with e
  exact h.om.2.neB hg e.symm
end
section
variable {P : Program} {ops : Array Oper} {rest : List Oper} {o : Oper} {a : Act} {Q : Exit → Act → World → Prop} {Kc : Act → World → Prop} {W w0 : World} {b : Nat} {es es' : List (Int × Int)} {k d : Int} {base : Nat}
/-- make(map[int64]int64). -/
theorem made_event (hgd : o.guard = none) {N : Tmp} (_hd : o.dst = some N) {t : TypeId} (hop : o.op = Op.makeMap t none) (hbase : base ≤ W.heap.size)
    (h : ∀ v w1, MapOK w1 base v [] → Below W.heap.size W w1 → wpList Try.prog ops Q rest (a.put o.dst v) w1) : wpList Try.prog ops Q (o :: rest) a W := by
  have hrun : (execOp a.eval o).run Try.prog W = .ok (.value (.map (some W.heap.size))) (W.alloc (.map #[] 0)) := by
    simp [execOp, hop, run_makeMap, Result.andThen]
  refine Kd.event_run hgd hrun (h _ _ ?_ (below_alloc (Below.refl _ _) _))
  exact ⟨⟨_, rfl, hbase, World.ownsMap_made _ _ _ _⟩, List.Pairwise.nil, Nat.zero_le _, fun e he => by cases he⟩
theorem MapOK.put (h : MapOK W base (.map (some b)) es) (hp : mput es k d = some es') (hb : Below base w0 W) :
    ∃ w1, (Instr.mapUpdate 80 (.map (some b)) (.int .i64 k) (.int .i64 d)).run Try.prog W = .ok () w1 ∧ MapOK w1 base (.map (some b)) es' ∧ W.grownBy w1 (some b) ∧ Below base w0 w1 := by
  obtain ⟨h1, h2, h3, rfl⟩ := mput_some hp
  obtain ⟨hbase, hom⟩ := h.om
  have hkey : keyOf Try.prog 2 (.int .i64 k) = some (.int .i64 k) := keyOf_int_mk Try.underlying2 h2
  obtain ⟨w1, hrun, hown, hg⟩ := hom.update keyed2 Try.underlying80 (by unfold maxLen; omega) hkey (plainElem_int Try.underlying2 h3)
  rw [mapD_put] at hown
  refine ⟨w1, hrun, ⟨⟨b, rfl, hbase, OM.size hown⟩, putZ_asc h.asc k d, by have := putZ_len es k d; omega, fun e he => ?_⟩, hg, hb.grown hg (Nat.le_trans hbase (Nat.le_of_lt hom.lt)) (fun j hj => by cases hj; exact hbase)⟩
  rcases (insZ_mem (k, d) e _).1 he with rfl | he
  · exact h2
  · exact h.wf e (List.mem_filter.1 he).1
/-- m[k] = d, in a region in order. -/
theorem put_event (hgd : o.guard = none) (m x y : Operand) (hop : o.op = Op.mapUpdate 80 m x y) (hN : o.dst = none) (hm : a.eval m = .map (some b)) (hx : a.eval x = .int .i64 k) (hy : a.eval y = .int .i64 d)
    (hO : MapOK W base (.map (some b)) es) (hp : mput es k d = some es') (hb : Below base w0 W)
    (h : ∀ w1, MapOK w1 base (.map (some b)) es' → W.grownBy w1 (some b) → Below base w0 w1 → wpList Try.prog ops Q rest a w1) : wpList Try.prog ops Q (o :: rest) a W := by
  obtain ⟨w1, hrun, h1, h2, h3⟩ := hO.put hp hb
  have e : (execOp a.eval o).run Try.prog W = .ok .skip w1 := by simp [execOp, hop, hm, hx, hy, hrun, Result.andThen]
  refine wpList_plain hgd fun K hK => ?_
  unfold Oper.wp
  rw [e]
  show K (a.put o.dst undef) w1
  rw [hN]
  exact hK _ _ (h w1 h1 h2 h3)
/-- m[k] = d, in a region whose order is drawn. -/
theorem put_step (hw : Region.wanted o (yielded ops a.tmps) = true) (m x y : Operand) (hop : o.op = Op.mapUpdate 80 m x y) (hN : o.dst = none) (hm : a.eval m = .map (some b)) (hx : a.eval x = .int .i64 k) (hy : a.eval y = .int .i64 d)
    (hO : MapOK W base (.map (some b)) es) (hp : mput es k d = some es') (hb : Below base w0 W)
    (h : ∀ w1, MapOK w1 base (.map (some b)) es' → W.grownBy w1 (some b) → Below base w0 w1 → Kc a w1) : if Region.wanted o (yielded ops a.tmps) = true then Oper.wp Try.prog o a W Kc Q else Kc (a.put none undef) W := by
  obtain ⟨w1, hrun, h1, h2, h3⟩ := hO.put hp hb
  refine skip_ hw hN (w1 := w1) ?_ (h w1 h1 h2 h3)
  simp [execOp, hop, hm, hx, hy, hrun, Result.andThen]
set_option maxRecDepth 100000 in
/-- What is read at a key. -/
theorem MapOK.get (h : MapOK W base (.map (some b)) es) (hk : wfI k = true) : (Instr.lookup 80 (.map (some b)) (.int .i64 k) false).run Try.prog W = .ok (.int .i64 (getZ es k)) W := by
  have hkey : keyOf Try.prog 2 (.int .i64 k) = some (.int .i64 k) := keyOf_int_mk Try.underlying2 hk
  obtain ⟨c, hrun, hat, _⟩ := h.om.2.lookup_int keyed2 Try.underlying80 Try.underlying2 (zeroI W) hkey
  rw [mapD_at] at hat
  injection hat with hat
  injection hat with _ hat
  rw [hat]
  exact hrun
end
theorem MapOK.lenrun {W : World} {base b : Nat} {es : List (Int × Int)} (h : MapOK W base (.map (some b)) es) (ty : TypeId) : (Builtin.len_ #[80] ty #[.map (some b)]).run Try.prog W = .ok (.int .i64 (es.length : Int)) W := by
  have e := h.om.2.len Try.underlying80 ty
  rw [mapD_size] at e
  exact e
theorem mrule_calls {W : World} {base b : Nat} {es : List (Int × Int)} {p r1 : Int} {r2 r3 : List Int} (h : MapOK W base (.map (some b)) es) (hr : mrule p es = some (r1, r2, r3)) :
    Calls Try.prog 58 #[.int .i64 p, .map (some b)] W fun e w' => ∃ v1_ v2_ : Value, e = .returned (.agg #[.int .i64 r1, v1_, v2_]) ∧ Kd.R (Kd.int .i64) 2 w' W.heap.size (fun k_ => some k_ ≠ (v2_ : Value).ownBlock) v1_ r2 ∧ Kd.R (Kd.int .i64) 2 w' W.heap.size (fun k_ => some k_ ≠ (v1_ : Value).ownBlock) v2_ r3 ∧ Below W.heap.size W w' := by
  have e := Option.some.inj hr
  obtain ⟨rfl, rfl, rfl⟩ : p = r1 ∧ es.map Prod.fst = r2 ∧ es.map Prod.snd = r3 := by simpa using e
  exact ruleOf_calls p es b _ W h.om.2 h.asc (by have := h.len; omega) h.wf
/- More short forms of what the printed walks spell out; no condition. -/
/-- The block k is not the row v's own. -/
abbrev ax (k : Nat) (v : Value) : Prop := some k ≠ v.ownBlock
theorem bc {w : World} {g : Nat} {t : TypeId} {cs : Array Value} (h : Aside0 (w.heap[g]? = some (.cells cs t (0, 0)))) (i : Nat) {v : Value} (hv : cs[i]? = some v := by rfl) : w.cell? ⟨g, i, none⟩ = some v := (blk_cell h.out i).trans hv
theorem bcu {w0 w : World} {g : Nat} {t : TypeId} {cs : Array Value} (h : Aside0 (w0.heap[g]? = some (.cells cs t (0, 0)))) (i : Nat) {v : Value} [u : Up w0 w] (hv : cs[i]? = some v := by rfl) : w.cell? ⟨g, i, none⟩ = some v := (blk_cell (uB h.out) i).trans hv
theorem bf {w : World} {g : Nat} {t : TypeId} {cs : Array Value} (h : Aside0 (w.heap[g]? = some (.cells cs t (0, 0)))) (i : Nat) : w.frozen? ⟨g, i, none⟩ = false := blk_frozen h.out i
theorem gq {b w w0 : World} {g : Nat} (HB : Aside0 (Below b.heap.size b w0)) (hg : g = w.heap.size) [u : UpS b.heap.size w0 w] : Aside0 (b.heap.size ≤ g) := ⟨by rw [hg]; exact below_size (u.up rfl HB.out)⟩
theorem hc {b w : World} {p : Addr} {v : Value} (HB : Aside0 (Below b.heap.size b w)) (h : b.cell? p = some v) : w.cell? p = some v := (HB.out.cell (World.block_lt_of_cell? b p h)).trans h
theorem hcu {b w0 w : World} {p : Addr} {v : Value} (HB : Aside0 (Below b.heap.size b w0)) (h : b.cell? p = some v) [u : UpS b.heap.size w0 w] : w.cell? p = some v := ((u.up rfl HB.out).cell (World.block_lt_of_cell? b p h)).trans h
section
variable {P : Program} {ops : Array Oper} {Q : Exit → Act → World → Prop} {rest : List Oper} {oi : Oper} {a : Act} {w : World} {f : FuncId} {fn : Func} {az : Array Operand} {ts : Array TypeId}
theorem gL (N : Option Tmp) (hf : P.funcs[f]? = some fn) (args : Array Value) (h : Calls P f args w fun e w' => ∃ v, e = .returned v ∧ wpList P ops Q rest (a.put N v) w')
    (hd : oi.dst = N := by rfl) (hg : oi.guard = none := by rfl) (hname : (fn.name == "runtime.NumGoroutine") = false := by kernel_rfl) (hb : fn.body.isSome = true := by rfl)
    (hop : oi.op = .call { callee := .value (.func f), args := az, argTypes := ts } := by rfl) (hargs : az.map a.eval = args := by ((try simp only [la, lb, lc]); first | done | rfl | (simp only [ld, le]; rfl))) : wpList P ops Q (oi :: rest) a w :=
  goesL_ N hd hg hf hname hb args hop hargs h
theorem bx (N : Tmp) (cs : Array Value) (t : TypeId) (h : ∀ g, g = w.heap.size → ∀ w1, w1.heap[g]? = some (.cells cs t (0, 0)) → Below w.heap.size w w1 → wpList P ops Q rest (a.put oi.dst (.pointer (some ⟨g, 0, none⟩))) w1)
    (hd : oi.dst = some N := by rfl) (hg : oi.guard = none := by rfl)
    (hr : (execOp a.eval oi).run P w = .ok (.value (.pointer (some ⟨w.heap.size, 0, none⟩))) (w.alloc (.cells cs t (0, 0))) := by first | (go_simp; done) | (go_simp; rfl)) : wpList P ops Q (oi :: rest) a w :=
  box_event hg hd hr h
theorem sT {id n : Nat} {S : World → Prop} (hm : P.follows .mixedOrders = true) (hS : S w.drew) (h : S w.drew → wpAnyLast P .any ops Q S [] n (bl n 0) a w.drew)
    (hn : ops.size = n := by rfl) (hl : Array.replicate n false = bl n 0 := by kernel_rfl) : (Code.region id ops true).wp P Q a w := start_ (bl n 0) hm hn hl hS h
theorem gS {N : Option Tmp} {K : Act → World → Prop} (hf : P.funcs[f]? = some fn) (args : Array Value) (h : Calls P f args w fun e w' => ∃ v, e = .returned v ∧ K (a.put N v) w')
    (hname : (fn.name == "runtime.NumGoroutine") = false := by kernel_rfl) (hb : fn.body.isSome = true := by rfl) (hw : Region.wanted oi (yielded ops a.tmps) = true := by rfl) (hN : oi.dst = N := by rfl)
    (hop : oi.op = .call { callee := .value (.func f), args := az, argTypes := ts } := by rfl) (hargs : az.map a.eval = args := by ((try simp only [la, lb, lc]); first | done | rfl | (simp only [ld, le]; rfl))) : if Region.wanted oi (yielded ops a.tmps) = true then Oper.wp P oi a w K Q else K (a.put N undef) w :=
  goes_ hf hname hb args hw hN hop hargs h
end
/-- One step back: a new block, or drawn numbers. -/
class Up1 (w : outParam World) (w1 : World) : Prop where
  up : Below w.heap.size w w1
instance Up1.alloc (w : World) (o : Obj) : Up1 w (w.alloc o) := ⟨below_alloc (Below.refl _ _) o⟩
instance Up1.drew (w : World) : Up1 w w.drew := ⟨below_drew1 (Below.refl _ _)⟩
instance Up1.drewN (w : World) (n : Nat) : Up1 w (w.drewN n) := ⟨pw_below_drewN (Below.refl _ _) n⟩
theorem up1 {w w1 : World} {g : Nat} {o : Obj} [u : Up1 w w1] (h : w.heap[g]? = some o) : w1.heap[g]? = some o := blk_below h u.up
section
variable {α : Type} {d : Kd α} {e base g t : Nat} {ok : Nat → Prop} {w : World} {v : Value} {xs : List α} {cells : Array Value}
/-- A row stays where the cells of a block of another type are set. -/
theorem rf2 (h : Aside0 (d.R e w base ok v xs)) (hb : Aside0 (w.heap[g]? = some (.cells cells t (0, 0)))) (ht : ∀ q, q ∈ e :: d.E → q ≠ t) (a b : Value) : d.R e ((w.setCell ⟨g, 0, none⟩ a).setCell ⟨g, 1, none⟩ b) base ok v xs :=
  Kd.R_mono (Kd.R_far (p := ⟨g, 1, none⟩) (Kd.R_far (p := ⟨g, 0, none⟩) (Kd.R_types h.out hb.out ht) (fun _ hk => hk.2) a) (fun _ hk => hk.2) b) (fun _ hk => hk.1)
theorem rf3 (h : Aside0 (d.R e w base ok v xs)) (hb : Aside0 (w.heap[g]? = some (.cells cells t (0, 0)))) (ht : ∀ q, q ∈ e :: d.E → q ≠ t) (a b c : Value) : d.R e (((w.setCell ⟨g, 0, none⟩ a).setCell ⟨g, 1, none⟩ b).setCell ⟨g, 2, none⟩ c) base ok v xs :=
  Kd.R_mono (Kd.R_far (p := ⟨g, 2, none⟩) (Kd.R_far (p := ⟨g, 1, none⟩) (Kd.R_far (p := ⟨g, 0, none⟩) (Kd.R_types h.out hb.out ht) (fun _ hk => hk.2) a) (fun _ hk => hk.2) b) (fun _ hk => hk.2) c) (fun _ hk => hk.1)
end
/-! ### impl_Rule_field: function 56 -/
def impl_Rule_field.f (a0_0 : Int) (l0_1 : List Int) (l0_2 : List Int) : Option (Int) := some a0_0
set_option maxHeartbeats 8000000 in
set_option maxRecDepth 100000 in
theorem impl_Rule_field.calls (a0_0 : Int) (A0_1 : Option Addr) (c0_1 : Nat) (l0_1 : List Int) (A0_2 : Option Addr) (c0_2 : Nat) (l0_2 : List Int) (r : Int) (w : World) (hr0_1 : Kd.C (Kd.int .i64) w A0_1 l0_1.length l0_1) (hc0_1 : l0_1.length ≤ c0_1) (hr0_2 : Kd.C (Kd.int .i64) w A0_2 l0_2.length l0_2) (hc0_2 : l0_2.length ≤ c0_2) (h : impl_Rule_field.f a0_0 l0_1 l0_2 = some r) :
  Calls Try.prog 56 #[.agg #[.int .i64 a0_0, .slice A0_1 l0_1.length c0_1, .slice A0_2 l0_2.length c0_2]] w fun e w' => e = .returned (.int .i64 r) ∧ Below w.heap.size w w' := by
 have hu51 := Try.underlying51
 have HR0_1 := zA hr0_1
 have HC0_1 := zA hc0_1
 clear hr0_1 hc0_1
 have HR0_2 := zA hr0_2
 have HC0_2 := zA hc0_2
 clear hr0_2 hc0_2
 have HB := zA (Below.refl w.heap.size w)
 have H : (some a0_0) = some r := h
 clear h
 obtain rfl := Option.some.inj H
 go_enter Try.func56, Try.ntmps56
 go_wp2_with (first | ((with_reducible refine gate_dst (N := 1) rfl ?_); refine bx 1 #[.int .i64 a0_0, .slice A0_1 l0_1.length c0_1, .slice A0_2 l0_2.length c0_2] 51 ?_; intro gb505 hg w2 hbox hb; have BK505 := zA (hbox); have GW505 := gq HB hg; have GE505 := gq HB hg; replace HB := xH HB hb; have := geI GE505; clear hb hbox hg; have hcz3_0 := bc BK505 0; have hcz3_1 := bc BK505 1; have hcz3_2 := bc BK505 2; have hfz3_0 := bf BK505 0; have hfz3_1 := bf BK505 1; have hfz3_2 := bf BK505 2))
 go_ret
 exact ⟨by first | rfl | (simp [errW_none, errW_some] <;> rfl) | (simp [*, errW_none, errW_some] <;> rfl), uH HB.out⟩
/-! ### impl_areAll_int64_1: function 85 -/
def impl_areAll_int64_1.f (a0 : Int) (a1_0 : (Int → Option Bool)) : Option (Bool) := (a1_0 a0).bind fun t159 => (some (!t159))
set_option maxHeartbeats 8000000 in
set_option maxRecDepth 100000 in
theorem impl_areAll_int64_1.calls (a0 : Int) (gc1 : Nat) (F1_0 : Value) (a1_0 : (Int → Option Bool)) (r : Bool) (w : World) (hb1 : w.heap[gc1]? = some (.cells #[F1_0] 79 (0, 0))) (hF1_0 : FnI Try.prog w F1_0 a1_0) (h : impl_areAll_int64_1.f a0 a1_0 = some r) :
  Calls Try.prog 85 #[.int .i64 a0, .pointer (some ⟨gc1, 0, none⟩)] w fun e w' => e = .returned (.bool r) ∧ Below w.heap.size w w' := by
 obtain ⟨G1_0, fi1_0, ca1_0, rfl, hen1_0, hF1_0⟩ := hF1_0
 have hen1_0 : ∀ (args_ : Array Value) (w_ : World), (callFunc G1_0 args_).run Try.prog w_ = .ok (.enter G1_0 args_) w_ := hen1_0
 have HF1_0 := zA hF1_0
 clear hF1_0
 have BK1 := zA hb1
 clear hb1
 have HB := zA (Below.refl w.heap.size w)
 have H : ((a1_0 a0).bind fun t159 => (some (!t159))) = some r := h
 clear h
 replace H := Option.bind_eq_some_iff.mp H
 obtain ⟨t159, A30, H⟩ := H
 replace H : (some (!t159)) = some r := H
 have A3 := zA A30
 clear A30
 obtain rfl := Option.some.inj H
 have hcz4_0 := bc BK1 0
 have hfz4_0 := bf BK1 0
 go_enter Try.func85, Try.ntmps85
 go_wp2_with (first | (go_at_fn G1_0; refine calls_of_args (args' := fi1_0 ++ #[.int .i64 a0] ++ ca1_0) (by simp) ?_; refine (HF1_0.out a0 _ A3.out _ (uH HB.out)).mono ?_; rintro e w5 ⟨rfl, hb⟩; replace BK1 := xB BK1 hb; replace HB := xH HB hb; (try clear hb)))
 go_ret
 exact ⟨by first | rfl | (simp [errW_none, errW_some] <;> rfl) | (simp [*, errW_none, errW_some] <;> rfl), uH HB.out⟩
/-! ### impl_areAll_rows_1: function 91 -/
def impl_areAll_rows_1.f (l0 : List Int) (a1_0 : (List Int → Option Bool)) : Option (Bool) := (a1_0 l0).bind fun t335 => (some (!t335))
set_option maxHeartbeats 8000000 in
set_option maxRecDepth 100000 in
theorem impl_areAll_rows_1.calls (A0 : Option Addr) (c0 : Nat) (l0 : List Int) (gc1 : Nat) (F1_0 : Value) (a1_0 : (List Int → Option Bool)) (r : Bool) (w : World) (hr0 : Kd.C (Kd.int .i64) w A0 l0.length l0) (hc0 : l0.length ≤ c0) (hb1 : w.heap[gc1]? = some (.cells #[F1_0] 66 (0, 0))) (hF1_0 : FnL Try.prog w F1_0 a1_0) (h : impl_areAll_rows_1.f l0 a1_0 = some r) :
  Calls Try.prog 91 #[.slice A0 l0.length c0, .pointer (some ⟨gc1, 0, none⟩)] w fun e w' => e = .returned (.bool r) ∧ Below w.heap.size w w' := by
 have HR0 := zA hr0
 have HC0 := zA hc0
 clear hr0 hc0
 obtain ⟨G1_0, fi1_0, ca1_0, rfl, hen1_0, hF1_0⟩ := hF1_0
 have hen1_0 : ∀ (args_ : Array Value) (w_ : World), (callFunc G1_0 args_).run Try.prog w_ = .ok (.enter G1_0 args_) w_ := hen1_0
 have HF1_0 := zA hF1_0
 clear hF1_0
 have BK1 := zA hb1
 clear hb1
 have HB := zA (Below.refl w.heap.size w)
 have H : ((a1_0 l0).bind fun t335 => (some (!t335))) = some r := h
 clear h
 replace H := Option.bind_eq_some_iff.mp H
 obtain ⟨t335, A30, H⟩ := H
 replace H : (some (!t335)) = some r := H
 have A3 := zA A30
 clear A30
 obtain rfl := Option.some.inj H
 have hcz4_0 := bc BK1 0
 have hfz4_0 := bf BK1 0
 go_enter Try.func91, Try.ntmps91
 go_wp2_with (first | (go_at_fn G1_0; refine calls_of_args (args' := fi1_0 ++ #[.slice A0 l0.length c0] ++ ca1_0) (by simp) ?_; refine (HF1_0.out l0 _ _ _ A3.out _ (uH HB.out) (by exact uC HR0.out) (by exact HC0.out)).mono ?_; rintro e w5 ⟨rfl, hb⟩; replace BK1 := xB BK1 hb; replace HB := xH HB hb; (try clear hb)))
 go_ret
 exact ⟨by first | rfl | (simp [errW_none, errW_some] <;> rfl) | (simp [*, errW_none, errW_some] <;> rfl), uH HB.out⟩
end Go.Proofs.Ytjdannndpfkadaa.Pr
