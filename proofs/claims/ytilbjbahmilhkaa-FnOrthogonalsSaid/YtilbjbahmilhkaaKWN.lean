/- Texts of this session in one: what functions of the program compute, and plain facts of it, under the conditions that each theorem names. -/
import Derived.Test.YtilbjbahmilhkaaKWShare
import Derived.Test.YtilbjbahmilhkaaKWZeros
-- PRINTED BY print.sh 35421559au: not written by this session
/-! ### 47. N: a row of the call's own whose elements share (what they lead to is only read) -/
namespace Go.Proofs.YtilbjbahmilhkaaW.PrintWords
open Go.RowKit
namespace Kd
/-- The cells one behind the other, element by element. -/
def chunks (sz : Nat) (n : Nat) (inner : List Value) : List (List Value):=(List.range n).map fun j=>(inner.drop (j * sz)).take sz
theorem lg (sz n : Nat) (inner : List Value) : (chunks sz n inner).length = n:=by simp [chunks]
theorem WU {sz n : Nat} {inner : List Value} {j : Nat} (hj : j < n) : (chunks sz n inner)[j]? = some ((inner.drop (j * sz)).take sz):=by simp [chunks,hj]
theorem zT {sz n : Nat} {inner : List Value} {j : Nat} {c : List Value} (h : (chunks sz n inner)[j]? = some c) : c = (inner.drop (j * sz)).take sz:=by
  have hj : j < n:=by have:=(List.getElem?_eq_some_iff.1 h).1;rwa [lg] at this
  rw [WU hj] at h
  injection h with h
  exact h.symm
theorem Jn {α : Type} {Rr : α → List Value → Prop} {sz : Nat} {xs : List α} {inner : List Value} (h : dn Rr sz xs inner) (hR : ∀ x c,Rr x c → c.length = sz∧∀ u ∈ c,u.oneCell' = true) : dn (fun x cs=>cs = x∧cs.length = sz∧∀ u ∈ cs,u.oneCell' = true) sz (chunks sz xs.length inner) inner:=by
  refine ⟨by rw [lg];exact h.1,fun j p hj=>?_⟩
  have hjl : j < xs.length:=by have:=(List.getElem?_eq_some_iff.1 hj).1;rwa [lg] at this
  have hp:=zT hj
  exact ⟨hp.symm,hR _ _ (h.2 j _ (List.getElem?_eq_getElem hjl))⟩
section
variable {α : Type} {d : Kd α} {e base n cc g : Nat} {ok ok' okp S : Nat → Prop} {w w1 W W1 : World} {A : Option Addr} {u v v1 : Value} {xs : List α} {x : α} {c : List Value}
/-- A row of elements (type e) of the call's own; what the elements lead to is only read, and is not this row. -/
def N {α : Type} (d : Kd α) (e : Nat) (w : World) (base : Nat) (ok : Nat → Prop) (v : Value) (xs : List α) : Prop :=
  (∀ k,v.ownBlock = some k → ok k)∧∃ rows : List (List Value),rows.length = xs.length∧(raw d.sz).R e w base (fun k=>some k = v.ownBlock) v rows∧∀ (j : Nat) (x : α) (c : List Value),xs[j]? = some x → rows[j]? = some c → FK d w (fun k=>ok k∧some k ≠ v.ownBlock) x c
theorem KI {sz : Nat} {rows : List (List Value)} (h : (raw sz).R e w base ok v rows) : (raw sz).R e w base (fun k=>some k = v.ownBlock) v rows:=zq rfl h
theorem aei {sz : Nat} {rows : List (List Value)} (h : (raw sz).R e w base ok v rows) : (raw sz).R e w base (fun _=>True) v rows:=ag h (fun _ _=>trivial)
theorem R_N (h : d.R e w base ok v xs) : N d e w base ok v xs:=by
  obtain ⟨h0,inner,ho,hr⟩:=h
  refine ⟨h0,chunks d.sz xs.length inner,lg _ _ _,⟨fun k hk=>hk.symm,inner,by rw [lg];exact ho,Jn hr (fun x c hp=>⟨d.K_len (d.K_of_M hp),d.K_one (d.K_of_M hp)⟩)⟩,fun j x c hx hc=>?_⟩
  rw [zT hc]
  exact ads (hr.2 j x hx)
theorem J6 (d : Kd α) (e : Nat) (w : World) (base : Nat) (ok : Nat → Prop) : N d e w base ok (.slice none 0 0) []:=R_N (qZ _ _ _ _ _)
theorem rM (h : N d e w base ok v xs) (hok : ∀ k,ok k → ok' k) : N d e w base ok' v xs:=by
  obtain ⟨h0,rows,hl,hR,hf⟩:=h
  exact ⟨fun k hk=>hok k (h0 k hk),rows,hl,hR,fun j x c hx hc=>BQ (hf j x c hx hc) (fun k hk=>⟨hok k hk.1,hk.2⟩)⟩
theorem azV (h : N d e w base ok v xs) : ∀ k,v.ownBlock = some k → k < w.heap.size:=by
  obtain ⟨_,rows,_,hR,_⟩:=h
  exact jN hR
theorem Xh (h : N d e w base ok v xs) : ∀ k,v.ownBlock = some k → base ≤ k:=by
  obtain ⟨_,rows,_,hR,_⟩:=h
  exact aN hR
theorem xw (h : N d e w base ok v xs) : ∀ k,v.ownBlock = some k → ∃ cells,w.heap[k]? = some (.cells cells e (0,0)):=by
  obtain ⟨_,rows,_,hR,_⟩:=h
  exact wX hR
/-- By types: the row itself is none of a block of another type (its elements' blocks may be: they are told by ok). -/
theorem adM (h : N d e w base ok v xs) {t : Nat} {cells : Array Value} (hb : w.heap[g]? = some (.cells cells t (0,0))) (ht : e ≠ t) : some g ≠ v.ownBlock:=by
  obtain ⟨_,rows,_,hR,_⟩:=h
  exact Qd hR hb ht
theorem N7 (h : N d e w base ok v xs) : N d e w base (fun k=>ok k∧k < w.heap.size) v xs:=by
  have hlt:=azV h
  obtain ⟨h0,rows,hl,hR,hf⟩:=h
  exact ⟨fun k hk=>⟨h0 k hk,hlt k hk⟩,rows,hl,hR,fun j x c hx hc=>BQ (I4 (hf j x c hx hc)) (fun k hk=>⟨⟨hk.1.1,hk.2⟩,hk.1.2⟩)⟩
theorem zt {base' : Nat} (h : N d e w base ok v xs) (hb : base' ≤ base) : N d e w base' ok v xs:=by
  obtain ⟨h0,rows,hl,hR,hf⟩:=h
  exact ⟨h0,rows,hl,bD hR hb,hf⟩
theorem SS (h : N d e w base ok v xs) (hm : ∀ k,ok k → k < w.heap.size → w1.heap[k]? = w.heap[k]?) : N d e w1 base ok v xs:=by
  obtain ⟨h0,rows,hl,hR,hf⟩:=h
  exact ⟨h0,rows,hl,EL hR (fun k hk hlt=>hm k (h0 k hk.symm) hlt),fun j x c hx hc=>MF (hf j x c hx hc) (fun k hk hlt=>hm k hk.1 hlt)⟩
theorem oO (h : N d e w base ok v xs) (hb : Below w.heap.size w w1) : N d e w1 base ok v xs:=SS h (fun k _ hk=>hb.block k hk)
theorem yC (h : N d e w base ok v xs) (o : Obj) : N d e (w.alloc o) base ok v xs:=oO h (gG (Below.refl _ _) o)
theorem tH (h : N d e w base ok v xs) : N d e w.drew base ok v xs:=oO h (xD (Below.refl _ _))
theorem yD (h : N d e w base ok v xs) (m : Nat) : N d e (w.drewN m) base ok v xs:=oO h (aZ (Below.refl _ _) m)
theorem Cs (h : N d e w base ok v xs) {p : Addr} (hok : ∀ k,ok k → k ≠ p.block) (u : Value) : N d e (w.setCell p u) base ok v xs:=SS h (fun k ho _=>Below.heap_setCell w p u k (hok k ho))
theorem ww (h : N d e W base ok v xs) (hbase : ∀ k,u.ownBlock = some k → W.heap.size ≤ k) (hb : Below W.heap.size W w1) : N d e w1 base (fun k=>ok k∧some k ≠ u.ownBlock) v xs :=
  rM (oO (N7 h) hb) (fun k hk=>⟨hk.1,fun he=>by have:=hbase k he.symm;have:=hk.2;omega⟩)
theorem YO (h : N d e w base ok v xs) (a : Nat) (ha : w.heap.size ≤ a) : N d e w base (fun k=>ok k∧k ≠ a) v xs:=rM (N7 h) (fun k hk=>⟨hk.1,by have:=hk.2;omega⟩)
theorem abO (h : N d e W base (fun k=>ok k∧some k ≠ u.ownBlock) v xs) {u1 : Value} (hg : W.grownBy w1 u.ownBlock) (hat : u1.ownBlock = u.ownBlock ∨ ∃ b,u1.ownBlock = some b∧W.heap.size ≤ b) : N d e w1 base (fun k=>ok k∧some k ≠ u1.ownBlock) v xs:=by
  refine rM (SS (N7 h) (fun k hk hlt=>hg.block k hlt hk.1.2)) (fun k hk=>⟨hk.1.1,?_⟩)
  rcases hat with hat | ⟨b,hb,hle⟩
  · rw [hat];exact hk.1.2
  · rw [hb]
    intro he
    injection he with he
    have:=hk.2
    omega
theorem wY (h : N d e w base ok v xs) : ∃ A c,v = .slice A xs.length c:=by
  obtain ⟨_,rows,hl,hR,_⟩:=h
  obtain ⟨A,c,he⟩:=aY hR
  exact ⟨A,c,by rw [he,hl]⟩
theorem kN {n c : Nat} (h : N d e w base ok (.slice A n c) xs) : n = xs.length∧n ≤ c∧d.C w A xs.length xs:=by
  obtain ⟨_,rows,hl,hR,hf⟩:=h
  obtain ⟨hn,hc,hC⟩:=aH hR
  refine ⟨by omega,hc,?_⟩
  rw [hl] at hC
  refine ⟨rfl,hC.2.1,fun hp=>?_⟩
  obtain ⟨ad,he,hcell⟩:=hC.2.2 hp
  refine ⟨ad,he,fun j p hj=>?_⟩
  have hjl : j < rows.length:=by have:=(List.getElem?_eq_some_iff.1 hj).1;omega
  obtain ⟨c',hcl,hK,hcc⟩:=hcell j _ (List.getElem?_eq_getElem hjl)
  have hk:=AJ (hf j p _ hj (List.getElem?_eq_getElem hjl))
  refine ⟨c',hcl,?_,hcc⟩
  rw [show c' = rows[j] from hK.1]
  exact hk
/-- Element i: its cells, and what they lead to. -/
theorem alo {n cap : Nat} (h : N d e W base ok (.slice (some ⟨g,0,none⟩) n cap) xs) (z : α) (i : Int) (h0 : 0 ≤ i) (h1 : i < n) :
    ∃ c,c.length = d.sz∧FK d W (fun k=>ok k∧k ≠ g) (xs.getD i.toNat z) c∧(∀ j u,c[j]? = some u → W.cell? ⟨g,i.toNat * d.sz + j,none⟩ = some u)∧∀ j,W.frozen? ⟨g,i.toNat * d.sz + j,none⟩ = false:=by
  obtain ⟨_,rows,hl,hR,hf⟩:=h
  have hn:=(aH hR).1
  obtain ⟨c,hcl,hM,hcc,hfr⟩:=Qc hR [] i h0 h1
  have hil : i.toNat < rows.length:=by omega
  have hil' : i.toNat < xs.length:=by omega
  have hc : c = rows[i.toNat]:=by
    have h2:=hM.1
    rwa [List.getD_eq_getElem?_getD,List.getElem?_eq_getElem hil] at h2
  refine ⟨c,hcl,?_,hcc,hfr⟩
  rw [List.getD_eq_getElem?_getD,List.getElem?_eq_getElem hil']
  exact BQ (hf _ _ _ (List.getElem?_eq_getElem hil') (by rw [hc];exact List.getElem?_eq_getElem hil)) (fun k hk=>⟨hk.1,fun he=>hk.2 (by rw [he];simp [Value.ownBlock])⟩)
theorem DT {ad : Addr} {n cap : Nat} (h : N d e W base ok (.slice (some ad) n cap) xs) (z : α) (i : Int) (h0 : 0 ≤ i) (h1 : i < n) :
    ∃ c,c.length = d.sz∧FK d W (fun k=>ok k∧some k ≠ (Value.slice (some ad) n cap).ownBlock) (xs.getD i.toNat z) c∧∀ j u,c[j]? = some u → W.cell? (ad.add (i.toNat * d.sz + j)) = some u:=by
  obtain ⟨g,rfl⟩ : ∃ g,ad = ⟨g,0,none⟩:=by
    obtain ⟨_,rows,_,hR,_⟩:=h
    exact ahe hR
  obtain ⟨c,hcl,hM,hcc,_⟩:=alo h z i h0 h1
  refine ⟨c,hcl,BQ hM (fun k hk=>⟨hk.1,fun he=>hk.2 (by simpa [Value.ownBlock] using he)⟩),fun j u hu=>?_⟩
  rw [KR,Nat.zero_add]
  exact hcc j u hu
end
end Kd
end Go.Proofs.YtilbjbahmilhkaaW.PrintWords
