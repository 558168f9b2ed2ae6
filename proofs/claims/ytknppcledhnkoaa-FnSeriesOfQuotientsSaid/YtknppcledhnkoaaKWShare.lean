/- Texts of this session in one: what functions of the program compute, and plain facts of it, under the conditions that each theorem names. -/
import Derived.Test.YtknppcledhnkoaaKWKept
-- PRINTED BY print.sh 35421559aD: not written by this session
/-! ### 46. Values that share: what is only read, with the blocks it lies in (its footprint 'ok'): ny, F (a row that is read), FK (an element's cells) -/
namespace Go.Proofs.YtknppcledhnkoaaW.PrintWords
open Go.RowKit
/-- P holds in W and in every world that has W's blocks of ok. -/
def ny (P : World → Prop) (W : World) (ok : Nat → Prop) : Prop:=∀ W' : World,(∀ k,ok k → k < W.heap.size → W'.heap[k]? = W.heap[k]?) → P W'
theorem EI {W W1 : World} {k : Nat} (h : W1.heap[k]? = W.heap[k]?) (hlt : k < W.heap.size) : k < W1.heap.size:=by
  rw [Array.getElem?_eq_getElem hlt] at h
  exact (Array.getElem?_eq_some_iff.1 h).1
namespace ny
variable {P Q : World → Prop} {W W1 : World} {ok ok' : Nat → Prop}
theorem now (h : ny P W ok) : P W:=h W (fun _ _ _=>rfl)
theorem mono (h : ny P W ok) (hok : ∀ k,ok k → ok' k) : ny P W ok':=fun W' hW=>h W' (fun k hk hlt=>hW k (hok k hk) hlt)
theorem bound (h : ny P W ok) : ny P W (fun k=>ok k∧k < W.heap.size):=fun W' hW=>h W' (fun k hk hlt=>hW k ⟨hk,hlt⟩ hlt)
theorem step (h : ny P W ok) (hm : ∀ k,ok k → k < W.heap.size → W1.heap[k]? = W.heap[k]?) : ny P W1 ok:=fun W' hW=>h W' (fun k hk hlt=>(hW k hk (EI (hm k hk hlt) hlt)).trans (hm k hk hlt))
/-- Moved, and still elder than what is new since W. -/
theorem old (h : ny P W ok) (hb : Below W.heap.size W W1) : ny P W1 (fun k=>ok k∧k < W.heap.size):=(h.bound).step (fun k _ hlt=>hb.block k hlt)
end ny
namespace Kd
/-- A row that is only read: what it leads to lies in ok. -/
def F {α : Type} (d : Kd α) (W : World) (ok : Nat → Prop) (A : Option Addr) (n : Nat) (xs : List α) : Prop:=ny (fun W=>d.C W A n xs) W ok
/-- An element's cells: what they lead to lies in ok. -/
def FK {α : Type} (d : Kd α) (W : World) (ok : Nat → Prop) (x : α) (c : List Value) : Prop:=ny (fun W=>d.K W x c) W ok
section
variable {α β : Type} {d : Kd α} {e base n n' cc g N : Nat} {ok ok' okp S : Nat → Prop} {w w0 w1 W W1 : World} {A A' : Option Addr} {u v v1 : Value} {xs : List α} {xs' : List β} {d' : Kd β} {x : α} {c : List Value}
theorem CJ (h : F d W ok A n xs) : d.C W A n xs:=ny.now h
theorem vF (h : F d W ok A n xs) (hok : ∀ k,ok k → ok' k) : F d W ok' A n xs:=ny.mono h hok
theorem xm (h : F d W ok A n xs) : F d W (fun k=>ok k∧k < W.heap.size) A n xs:=ny.bound h
theorem xn (h : F d W ok A n xs) (hm : ∀ k,ok k → k < W.heap.size → W1.heap[k]? = W.heap[k]?) : F d W1 ok A n xs:=ny.step h hm
theorem xq (h : F d W ok A n xs) (hb : Below W.heap.size W W1) : F d W1 ok A n xs:=xn h (fun k _ hlt=>hb.block k hlt)
theorem F5 (h : F d W ok A n xs) : F d W.drew ok A n xs:=xq h (q8 (Below.refl _ _))
theorem EJ (h : F d W ok A n xs) (m : Nat) : F d (W.drewN m) ok A n xs:=xq h (bQ (Below.refl _ _) m)
theorem G9 (h : F d W ok A n xs) {p : Addr} (hok : ∀ k,ok k → k ≠ p.block) (u : Value) : F d (W.setCell p u) ok A n xs:=xn h (fun k hk _=>Below.heap_setCell W p u k (hok k hk))
theorem F6 (h : F d W ok A n xs) (hk : aM W W1 g none) (hok : ∀ k,ok k → k ≠ g) : F d W1 ok A n xs:=xn h (fun k ho hlt=>hk.2 k hlt (hok k ho) (by simp))
theorem F7 (h : F d W ok A n xs) (hk : Kept W W1 S) (hok : ∀ k,ok k → ¬ S k) : F d W1 ok A n xs:=xn h (fun k ho hlt=>hk.2 k hlt (hok k ho))
theorem Hl (d : Kd α) (W : World) (ok : Nat → Prop) : F d W ok none ([] : List α).length []:=fun W' _=>FB d W'
/-- A new row's block is none of an elder one's. -/
theorem CK (h : F d W ok A n xs) (hbase : ∀ k,v.ownBlock = some k → W.heap.size ≤ k) (hb : Below W.heap.size W W1) : F d W1 (fun k=>ok k∧some k ≠ v.ownBlock) A n xs :=
  vF (ny.old h hb) (fun k hk=>⟨hk.1,fun he=>by have:=hbase k he.symm;have:=hk.2;omega⟩)
theorem CL (h : F d W ok A n xs) (a : Nat) (ha : W.heap.size ≤ a) : F d W (fun k=>ok k∧k ≠ a) A n xs:=vF (xm h) (fun k hk=>⟨hk.1,by have:=hk.2;omega⟩)
/-- Behind an append to v (it left v1): what lies apart from v lies apart from v1. -/
theorem EK (h : F d W (fun k=>ok k∧some k ≠ v.ownBlock) A n xs) (hg : W.grownBy W1 v.ownBlock) (hat : v1.ownBlock = v.ownBlock ∨ ∃ b,v1.ownBlock = some b∧W.heap.size ≤ b) : F d W1 (fun k=>ok k∧some k ≠ v1.ownBlock) A n xs:=by
  refine vF (ny.step (xm h) (fun k hk hlt=>hg.block k hlt hk.1.2)) (fun k hk=>⟨hk.1.1,?_⟩)
  rcases hat with hat | ⟨b,hb,hle⟩
  · rw [hat];exact hk.1.2
  · rw [hb]
    intro he
    injection he with he
    have:=hk.2
    omega
theorem Hm (h : F d W ok A n xs) (hb : Below W.heap.size W W1) : F d W1 (fun k=>ok k∧k < W.heap.size) A n xs:=ny.old h hb
theorem F8 (h : F d W1 (fun k=>ok k∧k < N) A n xs) (hbase : ∀ k,v.ownBlock = some k → N ≤ k) : F d W1 (fun k=>(ok k∧some k ≠ v.ownBlock)∧k < N) A n xs :=
  vF h (fun k hk=>⟨⟨hk.1,fun he=>Nat.lt_irrefl _ (Nat.lt_of_lt_of_le hk.2 (hbase k he.symm))⟩,hk.2⟩)
theorem R_F (h : d.R e W base ok (.slice A n cc) xs) : F d W ok A n xs:=fun W' hW=>by
  have h2:=dz (tK h hW)
  rw [h2.1]
  exact h2.2.2
/-- The same of an element's cells. -/
theorem nz (h : FK d W ok x c) : d.K W x c:=ny.now h
theorem pF (h : FK d W ok x c) (hok : ∀ k,ok k → ok' k) : FK d W ok' x c:=ny.mono h hok
theorem vG (h : FK d W ok x c) : FK d W (fun k=>ok k∧k < W.heap.size) x c:=ny.bound h
theorem rY (h : FK d W ok x c) (hm : ∀ k,ok k → k < W.heap.size → W1.heap[k]? = W.heap[k]?) : FK d W1 ok x c:=ny.step h hm
theorem EL (h : d.M W base ok x c) : FK d W ok x c:=fun _ hW=>d.K_of_M (CO h hW)
/-- A block that is Aq reads no more. -/
theorem Aq (W : World) (g : Nat) : ∃ W' : World,(∀ k,k ≠ g → W'.heap[k]? = W.heap[k]?)∧∀ a : Addr,a.block = g → W'.cell? a = none:=by
  refine ⟨{ W with heap:=W.heap.setIfInBounds g (.cells #[] 0) },fun k hk=>by simp [Ne.symm hk],fun a ha=>?_⟩
  subst ha
  by_cases hlt : a.block < W.heap.size
  · simp [World.cell?,hlt]
  · simp [World.cell?,hlt]
end
end Kd
end Go.Proofs.YtknppcledhnkoaaW.PrintWords
