/- Texts of this session in one: what functions of the program compute, and plain facts of it, under the conditions that each theorem names. -/
import Derived.Test.YtilbjbahmilhkaaKWShare
import Derived.Test.YtilbjbahmilhkaaKWZeros
-- PRINTED BY print.sh 35421559ay: not written by this session
/-! ### 47. N: a row of the call's own whose elements share (what they lead to is only read) -/
namespace Go.Proofs.YtilbjbahmilhkaaW.PrintWords
open Go.RowKit
namespace Kd
/-- The cells one behind the other, element by element. -/
def chunks (sz : Nat) (n : Nat) (inner : List Value) : List (List Value):=(List.range n).map fun j=>(inner.drop (j * sz)).take sz
theorem qF (sz n : Nat) (inner : List Value) : (chunks sz n inner).length = n:=by simp [chunks]
theorem Sb {sz n : Nat} {inner : List Value} {j : Nat} (hj : j < n) : (chunks sz n inner)[j]? = some ((inner.drop (j * sz)).take sz):=by simp [chunks,hj]
theorem Ie {sz n : Nat} {inner : List Value} {j : Nat} {c : List Value} (h : (chunks sz n inner)[j]? = some c) : c = (inner.drop (j * sz)).take sz:=by
  have hj : j < n:=by have:=(List.getElem?_eq_some_iff.1 h).1;rwa [qF] at this
  rw [Sb hj] at h
  injection h with h
  exact h.symm
theorem Xx {α : Type} {Rr : α → List Value → Prop} {sz : Nat} {xs : List α} {inner : List Value} (h : cB Rr sz xs inner) (hR : ∀ x c,Rr x c → c.length = sz∧∀ u ∈ c,u.oneCell' = true) : cB (fun x cs=>cs = x∧cs.length = sz∧∀ u ∈ cs,u.oneCell' = true) sz (chunks sz xs.length inner) inner:=by
  refine ⟨by rw [qF];exact h.1,fun j p hj=>?_⟩
  have hjl : j < xs.length:=by have:=(List.getElem?_eq_some_iff.1 hj).1;rwa [qF] at this
  have hp:=Ie hj
  exact ⟨hp.symm,hR _ _ (h.2 j _ (List.getElem?_eq_getElem hjl))⟩
section
variable {α : Type} {d : Kd α} {e base n cc g : Nat} {ok ok' okp S : Nat → Prop} {w w1 W W1 : World} {A : Option Addr} {u v v1 : Value} {xs : List α} {x : α} {c : List Value}
/-- A row of elements (type e) of the call's own; what the elements lead to is only read, and is not this row. -/
def N {α : Type} (d : Kd α) (e : Nat) (w : World) (base : Nat) (ok : Nat → Prop) (v : Value) (xs : List α) : Prop :=
  (∀ k,v.ownBlock = some k → ok k)∧∃ rows : List (List Value),rows.length = xs.length∧(raw d.sz).R e w base (fun k=>some k = v.ownBlock) v rows∧∀ (j : Nat) (x : α) (c : List Value),xs[j]? = some x → rows[j]? = some c → FK d w (fun k=>ok k∧some k ≠ v.ownBlock) x c
theorem R5 {sz : Nat} {rows : List (List Value)} (h : (raw sz).R e w base ok v rows) : (raw sz).R e w base (fun k=>some k = v.ownBlock) v rows:=Bu rfl h
theorem aay {sz : Nat} {rows : List (List Value)} (h : (raw sz).R e w base ok v rows) : (raw sz).R e w base (fun _=>True) v rows:=af h (fun _ _=>trivial)
theorem R_N (h : d.R e w base ok v xs) : N d e w base ok v xs:=by
  obtain ⟨h0,inner,ho,hr⟩:=h
  refine ⟨h0,chunks d.sz xs.length inner,qF _ _ _,⟨fun k hk=>hk.symm,inner,by rw [qF];exact ho,Xx hr (fun x c hp=>⟨d.K_len (d.K_of_M hp),d.K_one (d.K_of_M hp)⟩)⟩,fun j x c hx hc=>?_⟩
  rw [Ie hc]
  exact ZO (hr.2 j x hx)
theorem ut (d : Kd α) (e : Nat) (w : World) (base : Nat) (ok : Nat → Prop) : N d e w base ok (.slice none 0 0) []:=R_N (qM _ _ _ _ _)
/-- By types: the row itself is none of a block of another type (its elements' blocks may be: they are told by ok). -/
theorem ajJ (h : N d e w base ok v xs) {t : Nat} {cells : Array Value} (hb : w.heap[g]? = some (.cells cells t (0,0))) (ht : e ≠ t) : some g ≠ v.ownBlock:=by
  obtain ⟨_,rows,_,hR,_⟩:=h
  exact BR hR hb ht
theorem ags (h : N d e w base ok v xs) (hm : ∀ k,ok k → k < w.heap.size → w1.heap[k]? = w.heap[k]?) : N d e w1 base ok v xs:=by
  obtain ⟨h0,rows,hl,hR,hf⟩:=h
  exact ⟨h0,rows,hl,Ia hR (fun k hk hlt=>hm k (h0 k hk.symm) hlt),fun j x c hx hc=>QH (hf j x c hx hc) (fun k hk hlt=>hm k hk.1 hlt)⟩
theorem J2 (h : N d e w base ok v xs) (hb : Below w.heap.size w w1) : N d e w1 base ok v xs:=ags h (fun k _ hk=>hb.block k hk)
theorem aad (h : N d e w base ok v xs) : ∃ A c,v = .slice A xs.length c:=by
  obtain ⟨_,rows,hl,hR,_⟩:=h
  obtain ⟨A,c,he⟩:=aW hR
  exact ⟨A,c,by rw [he,hl]⟩
theorem MO {n c : Nat} (h : N d e w base ok (.slice A n c) xs) : n = xs.length∧n ≤ c∧d.C w A xs.length xs:=by
  obtain ⟨_,rows,hl,hR,hf⟩:=h
  obtain ⟨hn,hc,hC⟩:=aK hR
  refine ⟨by omega,hc,?_⟩
  rw [hl] at hC
  refine ⟨rfl,hC.2.1,fun hp=>?_⟩
  obtain ⟨ad,he,hcell⟩:=hC.2.2 hp
  refine ⟨ad,he,fun j p hj=>?_⟩
  have hjl : j < rows.length:=by have:=(List.getElem?_eq_some_iff.1 hj).1;omega
  obtain ⟨c',hcl,hK,hcc⟩:=hcell j _ (List.getElem?_eq_getElem hjl)
  have hk:=OC (hf j p _ hj (List.getElem?_eq_getElem hjl))
  refine ⟨c',hcl,?_,hcc⟩
  rw [show c' = rows[j] from hK.1]
  exact hk
end
end Kd
end Go.Proofs.YtilbjbahmilhkaaW.PrintWords
