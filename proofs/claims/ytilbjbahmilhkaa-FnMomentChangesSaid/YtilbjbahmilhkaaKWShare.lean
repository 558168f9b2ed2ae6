/- Texts of this session in one: what functions of the program compute, and plain facts of it, under the conditions that each theorem names. -/
import Derived.Test.YtilbjbahmilhkaaKWKept
-- PRINTED BY print.sh 35421559ay: not written by this session
/-! ### 46. Values that share: what is only read, with the blocks it lies in (its footprint 'ok'): tX, F (a row that is read), FK (an element's cells) -/
namespace Go.Proofs.YtilbjbahmilhkaaW.PrintWords
open Go.RowKit
/-- P holds in W and in every world that has W's blocks of ok. -/
def tX (P : World → Prop) (W : World) (ok : Nat → Prop) : Prop:=∀ W' : World,(∀ k,ok k → k < W.heap.size → W'.heap[k]? = W.heap[k]?) → P W'
theorem ZM {W W1 : World} {k : Nat} (h : W1.heap[k]? = W.heap[k]?) (hlt : k < W.heap.size) : k < W1.heap.size:=by
  rw [Array.getElem?_eq_getElem hlt] at h
  exact (Array.getElem?_eq_some_iff.1 h).1
namespace tX
variable {P Q : World → Prop} {W W1 : World} {ok ok' : Nat → Prop}
theorem now (h : tX P W ok) : P W:=h W (fun _ _ _=>rfl)
theorem mono (h : tX P W ok) (hok : ∀ k,ok k → ok' k) : tX P W ok':=fun W' hW=>h W' (fun k hk hlt=>hW k (hok k hk) hlt)
theorem bound (h : tX P W ok) : tX P W (fun k=>ok k∧k < W.heap.size):=fun W' hW=>h W' (fun k hk hlt=>hW k ⟨hk,hlt⟩ hlt)
theorem step (h : tX P W ok) (hm : ∀ k,ok k → k < W.heap.size → W1.heap[k]? = W.heap[k]?) : tX P W1 ok:=fun W' hW=>h W' (fun k hk hlt=>(hW k hk (ZM (hm k hk hlt) hlt)).trans (hm k hk hlt))
theorem imp (h : tX P W ok) (hi : ∀ W',P W' → Q W') : tX Q W ok:=fun W' hW=>hi W' (h W' hW)
/-- Moved, and still elder than what is new since W. -/
theorem old (h : tX P W ok) (hb : Below W.heap.size W W1) : tX P W1 (fun k=>ok k∧k < W.heap.size):=(h.bound).step (fun k _ hlt=>hb.block k hlt)
end tX
namespace Kd
/-- A row that is only read: what it leads to lies in ok. -/
def F {α : Type} (d : Kd α) (W : World) (ok : Nat → Prop) (A : Option Addr) (n : Nat) (xs : List α) : Prop:=tX (fun W=>d.C W A n xs) W ok
/-- An element's cells: what they lead to lies in ok. -/
def FK {α : Type} (d : Kd α) (W : World) (ok : Nat → Prop) (x : α) (c : List Value) : Prop:=tX (fun W=>d.K W x c) W ok
section
variable {α β : Type} {d : Kd α} {e base n n' cc g N : Nat} {ok ok' okp S : Nat → Prop} {w w0 w1 W W1 : World} {A A' : Option Addr} {u v v1 : Value} {xs : List α} {xs' : List β} {d' : Kd β} {x : α} {c : List Value}
theorem ahb (h : F d W ok A n xs) : d.C W A n xs:=tX.now h
theorem Ng (h : F d W ok A n xs) (hok : ∀ k,ok k → ok' k) : F d W ok' A n xs:=tX.mono h hok
theorem QG (h : F d W ok A n xs) : F d W (fun k=>ok k∧k < W.heap.size) A n xs:=tX.bound h
theorem afr (h : F d W ok A n xs) (hm : ∀ k,ok k → k < W.heap.size → W1.heap[k]? = W.heap[k]?) : F d W1 ok A n xs:=tX.step h hm
theorem ahe (h : F d W ok A n xs) (hi : ∀ W',d.C W' A n xs → d'.C W' A' n' xs') : F d' W ok A' n' xs':=tX.imp h hi
theorem BC (h : F d W ok A n xs) (hb : Below W.heap.size W W1) : F d W1 ok A n xs:=afr h (fun k _ hlt=>hb.block k hlt)
theorem X6 (h : F d W ok A n xs) (o : Obj) : F d (W.alloc o) ok A n xs:=BC h (fF (Below.refl _ _) o)
theorem adI (h : F d W ok A n xs) : F d W.drew ok A n xs:=BC h (yj (Below.refl _ _))
theorem X7 (h : F d W ok A n xs) (m : Nat) : F d (W.drewN m) ok A n xs:=BC h (bn (Below.refl _ _) m)
theorem ahc (d : Kd α) (W : World) (ok : Nat → Prop) : F d W ok none ([] : List α).length []:=fun W' _=>Mq d W'
theorem Ta (h : F d W ok A n xs) (a : Nat) (ha : W.heap.size ≤ a) : F d W (fun k=>ok k∧k ≠ a) A n xs:=Ng (QG h) (fun k hk=>⟨hk.1,by have:=hk.2;omega⟩)
/-- Behind an append to v (it left v1): what lies apart from v lies apart from v1. -/
theorem X9 (h : F d W (fun k=>ok k∧some k ≠ v.ownBlock) A n xs) (hg : W.grownBy W1 v.ownBlock) (hat : v1.ownBlock = v.ownBlock ∨ ∃ b,v1.ownBlock = some b∧W.heap.size ≤ b) : F d W1 (fun k=>ok k∧some k ≠ v1.ownBlock) A n xs:=by
  refine Ng (tX.step (QG h) (fun k hk hlt=>hg.block k hlt hk.1.2)) (fun k hk=>⟨hk.1.1,?_⟩)
  rcases hat with hat | ⟨b,hb,hle⟩
  · rw [hat];exact hk.1.2
  · rw [hb]
    intro he
    injection he with he
    have:=hk.2
    omega
/-- What came in, a row of the call's own. -/
theorem C_F (hd : Heap d) (h : d.C w A n xs) : F d w (fun k=>k < w.heap.size) A n xs:=fun _ hW=>hd.C (fun k hlt=>hW k hlt hlt) h
/-- The same of an element's cells. -/
theorem OC (h : FK d W ok x c) : d.K W x c:=tX.now h
theorem ZN (h : FK d W ok x c) (hok : ∀ k,ok k → ok' k) : FK d W ok' x c:=tX.mono h hok
theorem VK (h : FK d W ok x c) : FK d W (fun k=>ok k∧k < W.heap.size) x c:=tX.bound h
theorem QH (h : FK d W ok x c) (hm : ∀ k,ok k → k < W.heap.size → W1.heap[k]? = W.heap[k]?) : FK d W1 ok x c:=tX.step h hm
theorem ZO (h : d.M W base ok x c) : FK d W ok x c:=fun _ hW=>d.K_of_M (VL h hW)
end
end Kd
end Go.Proofs.YtilbjbahmilhkaaW.PrintWords
