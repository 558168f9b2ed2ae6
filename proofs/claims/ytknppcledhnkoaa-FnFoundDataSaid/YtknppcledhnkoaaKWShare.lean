/- Texts of this session in one: what functions of the program compute, and plain facts of it, under the conditions that each theorem names. -/
import Derived.Test.YtknppcledhnkoaaKWKept
-- PRINTED BY print.sh 35421559aC: not written by this session
/-! ### 46. Values that share: what is only read, with the blocks it lies in (its footprint 'ok'): nR, F (a row that is read), FK (an element's cells) -/
namespace Go.Proofs.YtknppcledhnkoaaW.PrintWords
open Go.RowKit
/-- P holds in W and in every world that has W's blocks of ok. -/
def nR (P : World → Prop) (W : World) (ok : Nat → Prop) : Prop:=∀ W' : World,(∀ k,ok k → k < W.heap.size → W'.heap[k]? = W.heap[k]?) → P W'
theorem GJ {W W1 : World} {k : Nat} (h : W1.heap[k]? = W.heap[k]?) (hlt : k < W.heap.size) : k < W1.heap.size:=by
  rw [Array.getElem?_eq_getElem hlt] at h
  exact (Array.getElem?_eq_some_iff.1 h).1
namespace nR
variable {P Q : World → Prop} {W W1 : World} {ok ok' : Nat → Prop}
theorem now (h : nR P W ok) : P W:=h W (fun _ _ _=>rfl)
theorem mono (h : nR P W ok) (hok : ∀ k,ok k → ok' k) : nR P W ok':=fun W' hW=>h W' (fun k hk hlt=>hW k (hok k hk) hlt)
theorem bound (h : nR P W ok) : nR P W (fun k=>ok k∧k < W.heap.size):=fun W' hW=>h W' (fun k hk hlt=>hW k ⟨hk,hlt⟩ hlt)
theorem step (h : nR P W ok) (hm : ∀ k,ok k → k < W.heap.size → W1.heap[k]? = W.heap[k]?) : nR P W1 ok:=fun W' hW=>h W' (fun k hk hlt=>(hW k hk (GJ (hm k hk hlt) hlt)).trans (hm k hk hlt))
/-- Moved, and still elder than what is new since W. -/
theorem old (h : nR P W ok) (hb : Below W.heap.size W W1) : nR P W1 (fun k=>ok k∧k < W.heap.size):=(h.bound).step (fun k _ hlt=>hb.block k hlt)
end nR
namespace Kd
/-- A row that is only read: what it leads to lies in ok. -/
def F {α : Type} (d : Kd α) (W : World) (ok : Nat → Prop) (A : Option Addr) (n : Nat) (xs : List α) : Prop:=nR (fun W=>d.C W A n xs) W ok
/-- An element's cells: what they lead to lies in ok. -/
def FK {α : Type} (d : Kd α) (W : World) (ok : Nat → Prop) (x : α) (c : List Value) : Prop:=nR (fun W=>d.K W x c) W ok
section
variable {α β : Type} {d : Kd α} {e base n n' cc g N : Nat} {ok ok' okp S : Nat → Prop} {w w0 w1 W W1 : World} {A A' : Option Addr} {u v v1 : Value} {xs : List α} {xs' : List β} {d' : Kd β} {x : α} {c : List Value}
theorem KL (h : F d W ok A n xs) : d.C W A n xs:=nR.now h
theorem vR (h : F d W ok A n xs) (hok : ∀ k,ok k → ok' k) : F d W ok' A n xs:=nR.mono h hok
theorem CU (h : F d W ok A n xs) : F d W (fun k=>ok k∧k < W.heap.size) A n xs:=nR.bound h
theorem EQ (h : F d W ok A n xs) (hm : ∀ k,ok k → k < W.heap.size → W1.heap[k]? = W.heap[k]?) : F d W1 ok A n xs:=nR.step h hm
theorem yD (h : F d W ok A n xs) (hb : Below W.heap.size W W1) : F d W1 ok A n xs:=EQ h (fun k _ hlt=>hb.block k hlt)
theorem Jy (h : F d W ok A n xs) : F d W.drew ok A n xs:=yD h (pJ (Below.refl _ _))
theorem GK (h : F d W ok A n xs) (m : Nat) : F d (W.drewN m) ok A n xs:=yD h (fu (Below.refl _ _) m)
theorem KM (h : F d W ok A n xs) {p : Addr} (hok : ∀ k,ok k → k ≠ p.block) (u : Value) : F d (W.setCell p u) ok A n xs:=EQ h (fun k hk _=>Below.heap_setCell W p u k (hok k hk))
theorem KN (d : Kd α) (W : World) (ok : Nat → Prop) : F d W ok none ([] : List α).length []:=fun W' _=>Iq d W'
/-- A new row's block is none of an elder one's. -/
theorem ER (h : F d W ok A n xs) (hbase : ∀ k,v.ownBlock = some k → W.heap.size ≤ k) (hb : Below W.heap.size W W1) : F d W1 (fun k=>ok k∧some k ≠ v.ownBlock) A n xs :=
  vR (nR.old h hb) (fun k hk=>⟨hk.1,fun he=>by have:=hbase k he.symm;have:=hk.2;omega⟩)
theorem ES (h : F d W ok A n xs) (a : Nat) (ha : W.heap.size ≤ a) : F d W (fun k=>ok k∧k ≠ a) A n xs:=vR (CU h) (fun k hk=>⟨hk.1,by have:=hk.2;omega⟩)
/-- Behind an append to v (it left v1): what lies apart from v lies apart from v1. -/
theorem GL (h : F d W (fun k=>ok k∧some k ≠ v.ownBlock) A n xs) (hg : W.grownBy W1 v.ownBlock) (hat : v1.ownBlock = v.ownBlock ∨ ∃ b,v1.ownBlock = some b∧W.heap.size ≤ b) : F d W1 (fun k=>ok k∧some k ≠ v1.ownBlock) A n xs:=by
  refine vR (nR.step (CU h) (fun k hk hlt=>hg.block k hlt hk.1.2)) (fun k hk=>⟨hk.1.1,?_⟩)
  rcases hat with hat | ⟨b,hb,hle⟩
  · rw [hat];exact hk.1.2
  · rw [hb]
    intro he
    injection he with he
    have:=hk.2
    omega
theorem KO (h : F d W ok A n xs) (hb : Below W.heap.size W W1) : F d W1 (fun k=>ok k∧k < W.heap.size) A n xs:=nR.old h hb
theorem Jz (h : F d W1 (fun k=>ok k∧k < N) A n xs) (hbase : ∀ k,v.ownBlock = some k → N ≤ k) : F d W1 (fun k=>(ok k∧some k ≠ v.ownBlock)∧k < N) A n xs :=
  vR h (fun k hk=>⟨⟨hk.1,fun he=>Nat.lt_irrefl _ (Nat.lt_of_lt_of_le hk.2 (hbase k he.symm))⟩,hk.2⟩)
theorem R_F (h : d.R e W base ok (.slice A n cc) xs) : F d W ok A n xs:=fun W' hW=>by
  have h2:=dN (tK h hW)
  rw [h2.1]
  exact h2.2.2
/-- The same of an element's cells. -/
theorem tQ (h : FK d W ok x c) : d.K W x c:=nR.now h
theorem qQ (h : FK d W ok x c) (hok : ∀ k,ok k → ok' k) : FK d W ok' x c:=nR.mono h hok
theorem vS (h : FK d W ok x c) : FK d W (fun k=>ok k∧k < W.heap.size) x c:=nR.bound h
theorem yE (h : FK d W ok x c) (hm : ∀ k,ok k → k < W.heap.size → W1.heap[k]? = W.heap[k]?) : FK d W1 ok x c:=nR.step h hm
end
end Kd
end Go.Proofs.YtknppcledhnkoaaW.PrintWords
