/- Texts of this session in one: what functions of the program compute, and plain facts of it, under the conditions that each theorem names. -/
import Derived.Test.YtknppcledhnkoaaKWWords
import Derived.Test.YtknppcledhnkoaaKWLast
import Derived.Test.YtknppcledhnkoaaKWQPut
import Derived.Test.YtknppcledhnkoaaKWApart
import Derived.Test.YtknppcledhnkoaaKWZeros
import Derived.Test.YtknppcledhnkoaaKWFoot
import Derived.Test.YtknppcledhnkoaaKWKept
import Derived.Test.YtknppcledhnkoaaKWNEv
-- PRINTED BY print.sh 35421559aD: not written by this session
-- PRINTED WORDS (module Derived/Print/More.lean): go-gate-2's additions: an AI agent of Go's test side, Tue Nov 17 2026; no person has read it. Lean checks it.
namespace Go.Proofs.YtknppcledhnkoaaW.PrintMore
open Go.RowKit Go.Proofs.YtknppcledhnkoaaW.PrintWords
namespace Kd
open Go.Proofs.YtknppcledhnkoaaW.PrintWords.Kd
end Kd

namespace Kd
open Go.Proofs.YtknppcledhnkoaaW.PrintWords.Kd
section
variable {α : Type} {d : Kd α} {e base g N : Nat} {ok : Nat → Prop} {W w1 : World} {u v : Value} {xs : List α}
/-- An elder row over an event that only makes: its blocks are elder than what was made. -/
theorem Ho (hu : d.R e W base ok u xs) (hb : Below W.heap.size W w1) : d.R e w1 base (fun k=>ok k∧k < W.heap.size) u xs :=
  aI (qI (kC hu) hb) (fun _ h=>⟨h.1,h.2.2.1⟩)
/-- The same over a state's call. -/
theorem jK (hu : d.R e W base (fun k=>ok k∧k ≠ g) u xs) (hk : aM W w1 g none) : d.R e w1 base (fun k=>ok k∧k < W.heap.size) u xs :=
  aI (xD (kC hu) hk (fun _ h=>h.1.2)) (fun _ h=>⟨h.1.1,h.2.2.1⟩)
/-- It is none of the rows made since. -/
theorem jB (h : d.R e w1 base (fun k=>ok k∧k < N) u xs) (hbase : ∀ k,v.ownBlock = some k → N ≤ k) : d.R e w1 base (fun k=>(ok k∧some k ≠ v.ownBlock)∧k < N) u xs :=
  aI h (fun k hk=>⟨⟨hk.1,fun e=>Nat.lt_irrefl _ (Nat.lt_of_lt_of_le hk.2 (hbase k e.symm))⟩,hk.2⟩)
end
end Kd
/-- 'max' and 'min' of two whole numbers. -/
theorem kK (k k' : IntKind) (x y : Int) : Builtin.max2 (.int k x) (.int k' y) = pure (.int k (if x < y then y else x)):=by simp only [Builtin.max2,gt_iff_lt]
theorem kL (k k' : IntKind) (x y : Int) : Builtin.min2 (.int k x) (.int k' y) = pure (.int k (if y < x then y else x)):=by simp only [Builtin.min2]
theorem lQ (ats : Array TypeId) (ty : TypeId) (a b : Value) : Builtin.max_ ats ty #[a,b] = (Builtin.max2 a b >>= fun s=>pure s):=by simp only [Builtin.max_,List.foldlM_cons,List.foldlM_nil]
theorem lS (ats : Array TypeId) (ty : TypeId) (a b : Value) : Builtin.min_ ats ty #[a,b] = (Builtin.min2 a b >>= fun s=>pure s):=by simp only [Builtin.min_,List.foldlM_cons,List.foldlM_nil]
theorem jV (ats : Array TypeId) (ty : TypeId) (a b c : Value) : Builtin.max_ ats ty #[a,b,c] = (Builtin.max2 a b >>= fun s=>Builtin.max2 s c >>= fun s=>pure s):=by simp only [Builtin.max_,List.foldlM_cons,List.foldlM_nil]
theorem jW (ats : Array TypeId) (ty : TypeId) (a b c : Value) : Builtin.min_ ats ty #[a,b,c] = (Builtin.min2 a b >>= fun s=>Builtin.min2 s c >>= fun s=>pure s):=by simp only [Builtin.min_,List.foldlM_cons,List.foldlM_nil]
theorem kM (ats : Array TypeId) (ty : TypeId) (a b c d : Value) : Builtin.max_ ats ty #[a,b,c,d] = (Builtin.max2 a b >>= fun s=>Builtin.max2 s c >>= fun s=>Builtin.max2 s d >>= fun s=>pure s):=by simp only [Builtin.max_,List.foldlM_cons,List.foldlM_nil]
theorem kN (ats : Array TypeId) (ty : TypeId) (a b c d : Value) : Builtin.min_ ats ty #[a,b,c,d] = (Builtin.min2 a b >>= fun s=>Builtin.min2 s c >>= fun s=>Builtin.min2 s d >>= fun s=>pure s):=by simp only [Builtin.min_,List.foldlM_cons,List.foldlM_nil]
end Go.Proofs.YtknppcledhnkoaaW.PrintMore
namespace Go.Proofs.YtknppcledhnkoaaW.PrintWords
open Go.RowKit
section
variable {P : Program} {ops : Array Oper} {rest : List Oper} {o : Oper} {a : Act} {Q : Exit → Act → World → Prop} {W : World}
/-- The operation is a call of this function (a cheap look ahead of a dear step). -/
theorem av {f : FuncId} {as : Array Operand} {ts : Array TypeId} (_ho : o.op = .call { callee:=.value (.func f),args:=as,argTypes:=ts }) (h : wpList P ops Q (o :: rest) a W) : wpList P ops Q (o :: rest) a W:=h
/-- The operation is a builtin over these places. -/
theorem dX {b : Builtin} {xs : Array Operand} {ts : Array TypeId} (_ho : o.op = .call { callee:=.builtin b,args:=xs,argTypes:=ts }) (h : wpList P ops Q (o :: rest) a W) : wpList P ops Q (o :: rest) a W:=h
end
/-- A call's arguments, spelled otherwise. -/
theorem dw {P : Program} {f : FuncId} {args args' : Array Value} {w : World} {Q : Ending → World → Prop} (h : args = args') (hc : Calls P f args' w Q) : Calls P f args w Q:=h ▸ hc
/-- The greater of two whole numbers, as Go's max tells it. -/
def mx (a b : Int) : Int:=if a < b then b else a
/-- The smaller of two whole numbers, as Go's min tells it. -/
def mn (a b : Int) : Int:=if b < a then b else a
/-- It says x = x, and that is its use: 'rw [mO w]' fails where the world was not drawn, and the row behind it is skipped. -/
theorem mO (w : World) (n : Nat) : w.drewN n = w.drewN n:=rfl
namespace Kd
section
variable {α : Type} {d : Kd α} {e base b b' g N : Nat} {ok ok1 : Nat → Prop} {W W2 w1 : World} {u v : Value} {xs ys : List α} {S : Nat → Prop}
theorem BP {n size : Nat} {cs : List Value} (h : W.ownsRow b e size v n cs) (hb : ∀ k,v.ownBlock = some k → b' ≤ k) : W.ownsRow b' e size v n cs:=by
  obtain ⟨h1,h2⟩:=h
  refine ⟨h1,?_⟩
  rcases h2 with h2 | ⟨g,cap,cur,rfl,_,r⟩
  · exact .inl h2
  · exact .inr ⟨g,cap,cur,rfl,hb g (by simp [Value.ownBlock]),r⟩
/-- A row whose elements lead to nothing, and whose block is younger than was told. -/
theorem uF (hM : ∀ w ok x cs,d.M w b ok x cs → d.M w b' ok x cs) (h : d.R e W b ok v xs) (hb : ∀ k,v.ownBlock = some k → b' ≤ k) : d.R e W b' ok v xs:=by
  obtain ⟨h0,inner,ho,hr⟩:=h
  exact ⟨h0,inner,BP ho hb,hr.oW (fun _ _ hp=>hM _ _ _ _ hp)⟩
theorem jZ (h : d.R e W base ok v xs) (hk : Kept W W2 S) (hne : ∀ k,ok k → ¬ S k) : d.R e W2 base (fun k=>ok k∧(¬ S k∧k < W.heap.size)) v xs :=
  F4 (aI (kC h) (fun k hk=>⟨hk.1,hne k hk.1,hk.2.2.1⟩)) hk (fun _ hk=>hk.2.1)
end
end Kd
end Go.Proofs.YtknppcledhnkoaaW.PrintWords
namespace Go.Proofs.YtknppcledhnkoaaW.PrintWords
open Go.RowKit
/-- Beside a state: what was written is the state's, or new since. -/
theorem Kept.Aw {w W W2 : World} {S2 : Nat → Prop} {g : Nat} (h : aM w W g none) (k : Kept W W2 S2) (hs : ∀ k,S2 k → k = g ∨ w.heap.size ≤ k) : aM w W2 g none :=
  ⟨Nat.le_trans h.1 k.1,fun i hi hg hr=>(k.2 i (Nat.lt_of_lt_of_le hi h.1) (fun h2=>(hs i h2).elim hg (fun h3=>by omega))).trans (h.2 i hi hg hr)⟩
namespace Kd
/-- A row that is only read, told by its value: its form, its length, what it leads to (in ok). e and base say nothing; they make it as the others are. -/
def V {α : Type} (d : Kd α) (_e : Nat) (W : World) (_base : Nat) (ok : Nat → Prop) (v : Value) (xs : List α) : Prop:=∃ A c,v = .slice A xs.length c∧xs.length ≤ c∧F d W ok A xs.length xs
section
variable {α β : Type} {d : Kd α} {e base base' n m c g N' lo hi : Nat} {ok ok' S : Nat → Prop} {w W w1 : World} {A : Option Addr} {ad : Addr} {u v v1 : Value} {xs : List α}
theorem oZ (h : V d e W base ok v xs) (hF : ∀ A,F d W ok A xs.length xs → F d w1 ok' A xs.length xs) : V d e w1 base' ok' v xs:=by
  obtain ⟨A,c,hv,hl,hf⟩:=h
  exact ⟨A,c,hv,hl,hF A hf⟩
theorem pG (hl : xs.length ≤ c) (hf : F d W ok A xs.length xs) : V d e W base ok (.slice A xs.length c) xs:=⟨A,c,rfl,hl,hf⟩
theorem gz (h : V d e W base ok v xs) : ∃ A c,v = .slice A xs.length c:=by
  obtain ⟨A,c,hv,_⟩:=h
  exact ⟨A,c,hv⟩
theorem EW (h : V d e W base ok (.slice A n c) xs) : n = xs.length∧n ≤ c∧F d W ok A xs.length xs:=by
  obtain ⟨A',c',hv,hl,hf⟩:=h
  injection hv with ha hn hc
  subst ha;subst hc
  exact ⟨hn,by rw [hn];exact hl,hf⟩
theorem dS (h : V d e W base ok (.slice A n c) xs) : n = xs.length∧n ≤ c∧d.C W A xs.length xs:=⟨(EW h).1,(EW h).2.1,CJ (EW h).2.2⟩
theorem V_F (h : V d e W base ok (.slice A n c) xs) : F d W ok A n xs:=by
  obtain ⟨hn,_,hf⟩:=EW h
  rw [hn]
  exact hf
theorem l8 (d : Kd α) (e : Nat) (W : World) (base : Nat) (ok : Nat → Prop) : V d e W base ok (.slice none 0 0) []:=⟨none,0,rfl,Nat.le_refl _,Hl d W ok⟩
theorem R_V (h : d.R e W base ok v xs) : V d e W base' ok v xs:=by
  obtain ⟨A,c,rfl⟩:=aN h
  exact ⟨A,c,rfl,(dz h).2.1,R_F h⟩
theorem aH (h : V d e W base ok v xs) (hok : ∀ k,ok k → ok' k) : V d e W base ok' v xs:=oZ h (fun _ hf=>vF hf hok)
theorem EX (h : V d e W base ok v xs) : V d e W base (fun k=>ok k∧k < W.heap.size) v xs:=oZ h (fun _ hf=>xm hf)
theorem mE (h : V d e W base ok v xs) (_ : base' ≤ base) : V d e W base' ok v xs:=h
theorem dx (h : V d e W base ok v xs) (hb : Below W.heap.size W w1) : V d e w1 base ok v xs:=oZ h (fun _ hf=>xq hf hb)
theorem fE (h : V d e W base ok v xs) : V d e W.drew base ok v xs:=oZ h (fun _ hf=>F5 hf)
theorem dZ (h : V d e W base ok v xs) (m : Nat) : V d e (W.drewN m) base ok v xs:=oZ h (fun _ hf=>EJ hf m)
theorem iC (h : V d e W base ok v xs) {p : Addr} (hok : ∀ k,ok k → k ≠ p.block) (u : Value) : V d e (W.setCell p u) base ok v xs:=oZ h (fun _ hf=>G9 hf hok u)
theorem tO (h : V d e W base ok v xs) (hk : aM W w1 g none) (hok : ∀ k,ok k → k ≠ g) : V d e w1 base ok v xs:=oZ h (fun _ hf=>F6 hf hk hok)
theorem Gl (h : V d e W base ok v xs) (hk : Kept W w1 S) (hok : ∀ k,ok k → ¬ S k) : V d e w1 base ok v xs:=oZ h (fun _ hf=>F7 hf hk hok)
theorem EY (h : V d e W base (fun k=>ok k∧some k ≠ u.ownBlock) v xs) (hg : W.grownBy w1 u.ownBlock) (hat : v1.ownBlock = u.ownBlock ∨ ∃ b,v1.ownBlock = some b∧W.heap.size ≤ b) : V d e w1 base (fun k=>ok k∧some k ≠ v1.ownBlock) v xs:=oZ h (fun _ hf=>EK hf hg hat)
theorem d9 (h : V d e W base (fun k=>ok k∧some k ≠ v.ownBlock) u xs) (hg : W.grownBy w1 v.ownBlock) (hat : v1.ownBlock = v.ownBlock ∨ ∃ b,v1.ownBlock = some b∧W.heap.size ≤ b) : V d e w1 base (fun k=>ok k∧some k ≠ v1.ownBlock) u xs:=EY h hg hat
theorem ku (h : N d e W base (fun k=>ok k∧some k ≠ v.ownBlock) u xs) (hg : W.grownBy w1 v.ownBlock) (hat : v1.ownBlock = v.ownBlock ∨ ∃ b,v1.ownBlock = some b∧W.heap.size ≤ b) : N d e w1 base (fun k=>ok k∧some k ≠ v1.ownBlock) u xs:=EZ h hg hat
theorem bR (h : V d e W base ok v xs) (hbase : ∀ k,u.ownBlock = some k → W.heap.size ≤ k) (hb : Below W.heap.size W w1) : V d e w1 base (fun k=>ok k∧some k ≠ u.ownBlock) v xs:=oZ h (fun _ hf=>CK hf hbase hb)
theorem Dw (h : V d e W base ok v xs) (a : Nat) (ha : W.heap.size ≤ a) : V d e W base (fun k=>ok k∧k ≠ a) v xs:=oZ h (fun _ hf=>CL hf a ha)
theorem Ay (h : V d e W base ok v xs) (hb : Below W.heap.size W w1) : V d e w1 base (fun k=>ok k∧k < W.heap.size) v xs:=oZ h (fun _ hf=>Hm hf hb)
theorem ql (h : V d e w1 base (fun k=>ok k∧k < N') v xs) (hbase : ∀ k,u.ownBlock = some k → N' ≤ k) : V d e w1 base (fun k=>(ok k∧some k ≠ u.ownBlock)∧k < N') v xs:=oZ h (fun _ hf=>F8 hf hbase)
theorem Az (h : V d e W base ok v xs) (hk : Kept W w1 S) (hne : ∀ k,ok k → ¬ S k) : V d e w1 base (fun k=>ok k∧(¬ S k∧k < W.heap.size)) v xs :=
  Gl (aH (EX h) (fun k hk=>⟨hk.1,hne k hk.1,hk.2⟩)) hk (fun _ hk=>hk.2.1)
theorem E5 (h : N d e W base ok v xs) (hk : Kept W w1 S) (hne : ∀ k,ok k → ¬ S k) : N d e w1 base (fun k=>ok k∧(¬ S k∧k < W.heap.size)) v xs :=
  Gm (bn (sw h) (fun k hk=>⟨hk.1,hne k hk.1,hk.2⟩)) hk (fun _ hk=>hk.2.1)
/-- An element that is itself a row: its one cell. -/
theorem eO {l : List α} {cs : List Value} (h : FK (Kd.slice e d) W ok l cs) : ∃ A c,cs = [.slice A l.length c]∧l.length ≤ c∧F d W ok A l.length l:=by
  obtain ⟨A,c,rfl,hl,_⟩:=nz h
  refine ⟨A,c,rfl,hl,fun W' hW=>?_⟩
  obtain ⟨A',c',he,_,g'⟩:=h W' hW
  injection he with he _
  injection he with ha _ _
  rw [ha]
  exact g'
theorem dK {l : List α} (hl : l.length ≤ c) (hf : F d W ok A l.length l) : FK (Kd.slice e d) W ok l [.slice A l.length c]:=fun W' hW=>⟨A,c,rfl,hl,hf W' hW⟩
theorem nQ {M : Nat → Prop} (h : d.R e w1 W.heap.size ok v xs) (hle : w.heap.size ≤ W.heap.size) (hM : ∀ k,w.heap.size ≤ k → M k) : d.R e w1 W.heap.size (fun k=>M k∧ok k) v xs:=aI (kC h) (fun k hk=>⟨hM k (Nat.le_trans hle hk.2.1),hk.1⟩)
end
end Kd
end Go.Proofs.YtknppcledhnkoaaW.PrintWords
