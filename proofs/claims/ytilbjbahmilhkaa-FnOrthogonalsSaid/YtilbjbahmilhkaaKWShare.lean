/- Texts of this session in one: what functions of the program compute, and plain facts of it, under the conditions that each theorem names. -/
import Derived.Test.YtilbjbahmilhkaaKWKept
-- PRINTED BY print.sh 35421559au: not written by this session
/-! ### 46. Values that share: what is only read, with the blocks it lies in (its footprint 'ok'): vM, F (a row that is read), FK (an element's cells) -/
namespace Go.Proofs.YtilbjbahmilhkaaW.PrintWords
open Go.RowKit
/-- P holds in W and in every world that has W's blocks of ok. -/
def vM (P : World → Prop) (W : World) (ok : Nat → Prop) : Prop:=∀ W' : World,(∀ k,ok k → k < W.heap.size → W'.heap[k]? = W.heap[k]?) → P W'
theorem adr {W W1 : World} {k : Nat} (h : W1.heap[k]? = W.heap[k]?) (hlt : k < W.heap.size) : k < W1.heap.size:=by
  rw [Array.getElem?_eq_getElem hlt] at h
  exact (Array.getElem?_eq_some_iff.1 h).1
namespace vM
variable {P Q : World → Prop} {W W1 : World} {ok ok' : Nat → Prop}
theorem now (h : vM P W ok) : P W:=h W (fun _ _ _=>rfl)
theorem mono (h : vM P W ok) (hok : ∀ k,ok k → ok' k) : vM P W ok':=fun W' hW=>h W' (fun k hk hlt=>hW k (hok k hk) hlt)
theorem bound (h : vM P W ok) : vM P W (fun k=>ok k∧k < W.heap.size):=fun W' hW=>h W' (fun k hk hlt=>hW k ⟨hk,hlt⟩ hlt)
theorem step (h : vM P W ok) (hm : ∀ k,ok k → k < W.heap.size → W1.heap[k]? = W.heap[k]?) : vM P W1 ok:=fun W' hW=>h W' (fun k hk hlt=>(hW k hk (adr (hm k hk hlt) hlt)).trans (hm k hk hlt))
theorem imp (h : vM P W ok) (hi : ∀ W',P W' → Q W') : vM Q W ok:=fun W' hW=>hi W' (h W' hW)
/-- Moved, and still elder than what is new since W. -/
theorem old (h : vM P W ok) (hb : Below W.heap.size W W1) : vM P W1 (fun k=>ok k∧k < W.heap.size):=(h.bound).step (fun k _ hlt=>hb.block k hlt)
end vM
namespace Kd
/-- A row that is only read: what it leads to lies in ok. -/
def F {α : Type} (d : Kd α) (W : World) (ok : Nat → Prop) (A : Option Addr) (n : Nat) (xs : List α) : Prop:=vM (fun W=>d.C W A n xs) W ok
/-- An element's cells: what they lead to lies in ok. -/
def FK {α : Type} (d : Kd α) (W : World) (ok : Nat → Prop) (x : α) (c : List Value) : Prop:=vM (fun W=>d.K W x c) W ok
section
variable {α β : Type} {d : Kd α} {e base n n' cc g N : Nat} {ok ok' okp S : Nat → Prop} {w w0 w1 W W1 : World} {A A' : Option Addr} {u v v1 : Value} {xs : List α} {xs' : List β} {d' : Kd β} {x : α} {c : List Value}
theorem alC (h : F d W ok A n xs) : d.C W A n xs:=vM.now h
theorem EG (h : F d W ok A n xs) (hok : ∀ k,ok k → ok' k) : F d W ok' A n xs:=vM.mono h hok
theorem ME (h : F d W ok A n xs) : F d W (fun k=>ok k∧k < W.heap.size) A n xs:=vM.bound h
theorem Rl (h : F d W ok A n xs) (hm : ∀ k,ok k → k < W.heap.size → W1.heap[k]? = W.heap[k]?) : F d W1 ok A n xs:=vM.step h hm
theorem alG (h : F d W ok A n xs) (hi : ∀ W',d.C W' A n xs → d'.C W' A' n' xs') : F d' W ok A' n' xs':=vM.imp h hi
theorem zo (h : F d W ok A n xs) (hb : Below W.heap.size W W1) : F d W1 ok A n xs:=Rl h (fun k _ hlt=>hb.block k hlt)
theorem abK (h : F d W ok A n xs) (o : Obj) : F d (W.alloc o) ok A n xs:=zo h (gG (Below.refl _ _) o)
theorem ag7 (h : F d W ok A n xs) : F d W.drew ok A n xs:=zo h (xD (Below.refl _ _))
theorem abL (h : F d W ok A n xs) (m : Nat) : F d (W.drewN m) ok A n xs:=zo h (aZ (Below.refl _ _) m)
theorem alE (h : F d W ok A n xs) {p : Addr} (hok : ∀ k,ok k → k ≠ p.block) (u : Value) : F d (W.setCell p u) ok A n xs:=Rl h (fun k hk _=>Below.heap_setCell W p u k (hok k hk))
theorem WX (h : F d W ok A n xs) (hk : aK W W1 g none) (hok : ∀ k,ok k → k ≠ g) : F d W1 ok A n xs:=Rl h (fun k ho hlt=>hk.2 k hlt (hok k ho) (by simp))
theorem alD (d : Kd α) (W : World) (ok : Nat → Prop) : F d W ok none ([] : List α).length []:=fun W' _=>Cr d W'
/-- A new row's block is none of an elder one's. -/
theorem WZ (h : F d W ok A n xs) (hbase : ∀ k,v.ownBlock = some k → W.heap.size ≤ k) (hb : Below W.heap.size W W1) : F d W1 (fun k=>ok k∧some k ≠ v.ownBlock) A n xs :=
  EG (vM.old h hb) (fun k hk=>⟨hk.1,fun he=>by have:=hbase k he.symm;have:=hk.2;omega⟩)
theorem W9 (h : F d W ok A n xs) (a : Nat) (ha : W.heap.size ≤ a) : F d W (fun k=>ok k∧k ≠ a) A n xs:=EG (ME h) (fun k hk=>⟨hk.1,by have:=hk.2;omega⟩)
/-- Behind an append to v (it left v1): what lies apart from v lies apart from v1. -/
theorem abN (h : F d W (fun k=>ok k∧some k ≠ v.ownBlock) A n xs) (hg : W.grownBy W1 v.ownBlock) (hat : v1.ownBlock = v.ownBlock ∨ ∃ b,v1.ownBlock = some b∧W.heap.size ≤ b) : F d W1 (fun k=>ok k∧some k ≠ v1.ownBlock) A n xs:=by
  refine EG (vM.step (ME h) (fun k hk hlt=>hg.block k hlt hk.1.2)) (fun k hk=>⟨hk.1.1,?_⟩)
  rcases hat with hat | ⟨b,hb,hle⟩
  · rw [hat];exact hk.1.2
  · rw [hb]
    intro he
    injection he with he
    have:=hk.2
    omega
theorem aha (h : F d W (fun k=>ok k∧k ≠ g) A n xs) (hk : aK W W1 g none) : F d W1 (fun k=>ok k∧k < W.heap.size) A n xs :=
  EG (WX (ME h) hk (fun _ hk=>hk.1.2)) (fun _ hk=>⟨hk.1.1,hk.2⟩)
theorem ahc (h : F d W1 (fun k=>ok k∧k < N) A n xs) (hbase : ∀ k,v.ownBlock = some k → N ≤ k) : F d W1 (fun k=>(ok k∧some k ≠ v.ownBlock)∧k < N) A n xs :=
  EG h (fun k hk=>⟨⟨hk.1,fun he=>Nat.lt_irrefl _ (Nat.lt_of_lt_of_le hk.2 (hbase k he.symm))⟩,hk.2⟩)
/-- What came in, a row of the call's own. -/
theorem C_F (hd : Heap d) (h : d.C w A n xs) : F d w (fun k=>k < w.heap.size) A n xs:=fun _ hW=>hd.C (fun k hlt=>hW k hlt hlt) h
theorem R_F (h : d.R e W base ok (.slice A n cc) xs) : F d W ok A n xs:=fun W' hW=>by
  have h2:=aH (EL h hW)
  rw [h2.1]
  exact h2.2.2
/-- The same of an element's cells. -/
theorem AJ (h : FK d W ok x c) : d.K W x c:=vM.now h
theorem BQ (h : FK d W ok x c) (hok : ∀ k,ok k → ok' k) : FK d W ok' x c:=vM.mono h hok
theorem I4 (h : FK d W ok x c) : FK d W (fun k=>ok k∧k < W.heap.size) x c:=vM.bound h
theorem MF (h : FK d W ok x c) (hm : ∀ k,ok k → k < W.heap.size → W1.heap[k]? = W.heap[k]?) : FK d W1 ok x c:=vM.step h hm
theorem ads (h : d.M W base ok x c) : FK d W ok x c:=fun _ hW=>d.K_of_M (YY h hW)
end
end Kd
end Go.Proofs.YtilbjbahmilhkaaW.PrintWords
