/- Texts of this session in one: what functions of the program compute, and plain facts of it, under the conditions that each theorem names. -/
import Derived.Test.YtnpepkpogohcmaaKWKept
-- PRINTED BY print.sh 35421559ak: not written by this session
/-! ### 46. Values that share: what is only read, with the blocks it lies in (its footprint 'ok'): uG, F (a row that is read), FK (an element's cells) -/
namespace Go.Proofs.YtnpepkpogohcmaaW.PrintWords
open Go.RowKit
/-- P holds in W and in every world that has W's blocks of ok. -/
def uG (P : World → Prop) (W : World) (ok : Nat → Prop) : Prop:=∀ W' : World,(∀ k,ok k → k < W.heap.size → W'.heap[k]? = W.heap[k]?) → P W'
theorem ZR {W W1 : World} {k : Nat} (h : W1.heap[k]? = W.heap[k]?) (hlt : k < W.heap.size) : k < W1.heap.size:=by
  rw [Array.getElem?_eq_getElem hlt] at h
  exact (Array.getElem?_eq_some_iff.1 h).1
namespace uG
variable {P Q : World → Prop} {W W1 : World} {ok ok' : Nat → Prop}
theorem now (h : uG P W ok) : P W:=h W (fun _ _ _=>rfl)
theorem mono (h : uG P W ok) (hok : ∀ k,ok k → ok' k) : uG P W ok':=fun W' hW=>h W' (fun k hk hlt=>hW k (hok k hk) hlt)
theorem bound (h : uG P W ok) : uG P W (fun k=>ok k∧k < W.heap.size):=fun W' hW=>h W' (fun k hk hlt=>hW k ⟨hk,hlt⟩ hlt)
theorem step (h : uG P W ok) (hm : ∀ k,ok k → k < W.heap.size → W1.heap[k]? = W.heap[k]?) : uG P W1 ok:=fun W' hW=>h W' (fun k hk hlt=>(hW k hk (ZR (hm k hk hlt) hlt)).trans (hm k hk hlt))
theorem imp (h : uG P W ok) (hi : ∀ W',P W' → Q W') : uG Q W ok:=fun W' hW=>hi W' (h W' hW)
/-- Moved, and still elder than what is new since W. -/
theorem old (h : uG P W ok) (hb : Below W.heap.size W W1) : uG P W1 (fun k=>ok k∧k < W.heap.size):=(h.bound).step (fun k _ hlt=>hb.block k hlt)
end uG
namespace Kd
/-- A row that is only read: what it leads to lies in ok. -/
def F {α : Type} (d : Kd α) (W : World) (ok : Nat → Prop) (A : Option Addr) (n : Nat) (xs : List α) : Prop:=uG (fun W=>d.C W A n xs) W ok
/-- An element's cells: what they lead to lies in ok. -/
def FK {α : Type} (d : Kd α) (W : World) (ok : Nat → Prop) (x : α) (c : List Value) : Prop:=uG (fun W=>d.K W x c) W ok
section
variable {α β : Type} {d : Kd α} {e base n n' cc g N : Nat} {ok ok' okp S : Nat → Prop} {w w0 w1 W W1 : World} {A A' : Option Addr} {u v v1 : Value} {xs : List α} {xs' : List β} {d' : Kd β} {x : α} {c : List Value}
theorem aiN (h : F d W ok A n xs) : d.C W A n xs:=uG.now h
theorem GY (h : F d W ok A n xs) (hok : ∀ k,ok k → ok' k) : F d W ok' A n xs:=uG.mono h hok
theorem QH (h : F d W ok A n xs) : F d W (fun k=>ok k∧k < W.heap.size) A n xs:=uG.bound h
theorem U8 (h : F d W ok A n xs) (hm : ∀ k,ok k → k < W.heap.size → W1.heap[k]? = W.heap[k]?) : F d W1 ok A n xs:=uG.step h hm
theorem aiO (h : F d W ok A n xs) (hi : ∀ W',d.C W' A n xs → d'.C W' A' n' xs') : F d' W ok A' n' xs':=uG.imp h hi
theorem AQ (h : F d W ok A n xs) (hb : Below W.heap.size W W1) : F d W1 ok A n xs:=U8 h (fun k _ hlt=>hb.block k hlt)
theorem ZT (h : F d W ok A n xs) (o : Obj) : F d (W.alloc o) ok A n xs:=AQ h (gJ (Below.refl _ _) o)
theorem aeD (h : F d W ok A n xs) : F d W.drew ok A n xs:=AQ h (xn (Below.refl _ _))
theorem ZU (h : F d W ok A n xs) (m : Nat) : F d (W.drewN m) ok A n xs:=AQ h (bD (Below.refl _ _) m)
theorem aiP (h : F d W ok A n xs) {p : Addr} (hok : ∀ k,ok k → k ≠ p.block) (u : Value) : F d (W.setCell p u) ok A n xs:=U8 h (fun k hk _=>Below.heap_setCell W p u k (hok k hk))
theorem aiQ (d : Kd α) (W : World) (ok : Nat → Prop) : F d W ok none ([] : List α).length []:=fun W' _=>LY d W'
/-- A new row's block is none of an elder one's. -/
theorem U9 (h : F d W ok A n xs) (hbase : ∀ k,v.ownBlock = some k → W.heap.size ≤ k) (hb : Below W.heap.size W W1) : F d W1 (fun k=>ok k∧some k ≠ v.ownBlock) A n xs :=
  GY (uG.old h hb) (fun k hk=>⟨hk.1,fun he=>by have:=hbase k he.symm;have:=hk.2;omega⟩)
theorem Va (h : F d W ok A n xs) (a : Nat) (ha : W.heap.size ≤ a) : F d W (fun k=>ok k∧k ≠ a) A n xs:=GY (QH h) (fun k hk=>⟨hk.1,by have:=hk.2;omega⟩)
/-- Behind an append to v (it left v1): what lies apart from v lies apart from v1. -/
theorem ZV (h : F d W (fun k=>ok k∧some k ≠ v.ownBlock) A n xs) (hg : W.grownBy W1 v.ownBlock) (hat : v1.ownBlock = v.ownBlock ∨ ∃ b,v1.ownBlock = some b∧W.heap.size ≤ b) : F d W1 (fun k=>ok k∧some k ≠ v1.ownBlock) A n xs:=by
  refine GY (uG.step (QH h) (fun k hk hlt=>hg.block k hlt hk.1.2)) (fun k hk=>⟨hk.1.1,?_⟩)
  rcases hat with hat | ⟨b,hb,hle⟩
  · rw [hat];exact hk.1.2
  · rw [hb]
    intro he
    injection he with he
    have:=hk.2
    omega
theorem aiR (h : F d W ok A n xs) (hb : Below W.heap.size W W1) : F d W1 (fun k=>ok k∧k < W.heap.size) A n xs:=uG.old h hb
theorem aeE (h : F d W1 (fun k=>ok k∧k < N) A n xs) (hbase : ∀ k,v.ownBlock = some k → N ≤ k) : F d W1 (fun k=>(ok k∧some k ≠ v.ownBlock)∧k < N) A n xs :=
  GY h (fun k hk=>⟨⟨hk.1,fun he=>Nat.lt_irrefl _ (Nat.lt_of_lt_of_le hk.2 (hbase k he.symm))⟩,hk.2⟩)
/-- What came in, a row of the call's own. -/
theorem C_F (hd : Heap d) (h : d.C w A n xs) : F d w (fun k=>k < w.heap.size) A n xs:=fun _ hW=>hd.C (fun k hlt=>hW k hlt hlt) h
theorem R_F (h : d.R e W base ok (.slice A n cc) xs) : F d W ok A n xs:=fun W' hW=>by
  have h2:=aM (El h hW)
  rw [h2.1]
  exact h2.2.2
/-- The same of an element's cells. -/
theorem zR (h : FK d W ok x c) : d.K W x c:=uG.now h
theorem AJ (h : FK d W ok x c) (hok : ∀ k,ok k → ok' k) : FK d W ok' x c:=uG.mono h hok
theorem GD (h : FK d W ok x c) : FK d W (fun k=>ok k∧k < W.heap.size) x c:=uG.bound h
theorem J5 (h : FK d W ok x c) (hm : ∀ k,ok k → k < W.heap.size → W1.heap[k]? = W.heap[k]?) : FK d W1 ok x c:=uG.step h hm
theorem ZH (h : d.M W base ok x c) : FK d W ok x c:=fun _ hW=>d.K_of_M (U1 h hW)
end
end Kd
end Go.Proofs.YtnpepkpogohcmaaW.PrintWords
