/- Texts of this session in one: what functions of the program compute, and plain facts of it, under the conditions that each theorem names. -/
import Derived.Test.YtnpepkpogohcmaaKtExpansions1
import Derived.Test.YtnpepkpogohcmaaKtExpansions2
namespace Go.Proofs.Ytnpepkpogohcmaa.Pr
/- Lists that begin a recurrence's step: monic stays monic; no condition. -/
open Go.RowKit Go.Proofs.YtnpepkpogohcmaaW.PrintWords Go.Proofs.YtnpepkpogohcmaaW.PrintLast Go.Proofs.YtnpepkpogohcmaaW.PrintMore
theorem getD_set_ne {l : List Int} {i j : Nat} {x : Int} (h : i ≠ j) : (l.set i x).getD j 0 = l.getD j 0:=by
  rw [List.getD_eq_getElem?_getD,List.getElem?_set_ne h,List.getD_eq_getElem?_getD]
theorem yj {l : List Int} {i : Nat} {x : Int} (h : i < l.length) : (l.set i x).getD i 0 = x:=by
  rw [List.getD_eq_getElem?_getD,List.getElem?_set_self h];rfl
theorem Pf (p c : Int) (g : List Int) (i d : Nat) : ∀ (j : Nat) (o : List Int),i + j + d < o.length →
    (oV p c g i (d + 1) j o).getD (i + j + d) 0 = (o.getD (i + j + d) 0 + c * g.getD (j + d) 0) % p:=by
  induction d with
  | zero =>
    intro j o h
    rw [oV,oV,Nat.add_zero,Nat.add_zero,yj (by omega)]
  | succ d ih =>
    intro j o h
    have:=ih (j + 1) (o.set (i + j) ((o.getD (i + j) 0 + c * g.getD j 0) % p)) (by rw [List.length_set];omega)
    rw [oV,show i + j + (d + 1) = i + (j + 1) + d from by omega,this,getD_set_ne (by omega),show j + 1 + d = j + (d + 1) from by omega]
theorem TV (p c : Int) (g : List Int) (i d : Nat) : ∀ (j t : Nat) (o : List Int),i + j + d ≤ t → (oV p c g i d j o).getD t 0 = o.getD t 0:=by
  induction d with
  | zero=>intro j t o h;rfl
  | succ d ih=>intro j t o h;rw [oV,ih (j + 1) t _ (by omega),getD_set_ne (by omega)]
theorem TW (p k : Int) (g : List Int) (d : Nat) : ∀ (i t : Nat) (o : List Int),i + d ≤ t → (sW p k g d i o).getD t 0 = o.getD t 0:=by
  induction d with
  | zero=>intro i t o h;rfl
  | succ d ih=>intro i t o h;rw [sW,ih (i + 1) t _ (by omega),getD_set_ne (by omega)]
theorem KC {l : List Int} {n : Nat} (hl : l.length = n + 1) (h : l.getD n 0 ≠ 0) : mr l = l:=by
  have hne : l ≠ []:=by intro e;rw [e] at hl;simp at hl
  have e:=List.dropLast_concat_getLast hne
  have hlast : l.getLast hne = l.getD n 0:=by
    rw [List.getLast_eq_getElem,List.getD_eq_getElem?_getD,List.getElem?_eq_getElem (by omega)]
    simp [hl]
  rw [← e,wZ _ (by rw [hlast];exact h)]
/-- Monic of degree k. -/
def Mon (f : List Int) (k : Nat) : Prop:=f.length = k + 1∧f.getD k 0 = 1
theorem TY {p : Int} (hp : Pm p) (a b : Int) (f g : List Int) (k : Nat) (hf : Mon f k) (hg : g.length ≤ k + 1) : Mon (zU p a b f g) (k + 1):=by
  have h2:=hp.two
  have e1 : (1 : Int) % p = 1:=Int.emod_eq_of_lt (by omega) (by omega)
  have hz : (List.replicate (2 + (k + 1) - 1) (0 : Int)).length = k + 2:=by rw [List.length_replicate];omega
  have ho : (oV p ((-a) % p) f 0 (k + 1) 0 (List.replicate (2 + (k + 1) - 1) 0)).length = k + 2:=by rw [sZ];exact hz
  have hz0 : (List.replicate (2 + (k + 1) - 1) (0 : Int)).getD (k + 1) 0 = 0:=by
    rw [List.getD_eq_getElem?_getD,List.getElem?_replicate];split <;> rfl
  have hm : nz p [(-a) % p,1] f = oV p 1 f 1 (k + 1) 0 (oV p ((-a) % p) f 0 (k + 1) 0 (List.replicate (2 + (k + 1) - 1) 0)) ∧
      (nz p [(-a) % p,1] f).length = k + 2∧(nz p [(-a) % p,1] f).getD (k + 1) 0 = 1:=by
    have hl : (oV p 1 f 1 (k + 1) 0 (oV p ((-a) % p) f 0 (k + 1) 0 (List.replicate (2 + (k + 1) - 1) 0))).length = k + 2:=by rw [sZ];exact ho
    have ht : (oV p 1 f 1 (k + 1) 0 (oV p ((-a) % p) f 0 (k + 1) 0 (List.replicate (2 + (k + 1) - 1) 0))).getD (k + 1) 0 = 1:=by
      have:=Pf p 1 f 1 k 0 (oV p ((-a) % p) f 0 (k + 1) 0 (List.replicate (2 + (k + 1) - 1) 0)) (by rw [ho];omega)
      rw [show 1 + 0 + k = k + 1 from by omega,TV p _ f 0 (k + 1) 0 (k + 1) _ (by omega),hz0,Nat.zero_add,hf.2,Int.one_mul,Int.zero_add,e1] at this
      exact this
    have he : nz p [(-a) % p,1] f = oV p 1 f 1 (k + 1) 0 (oV p ((-a) % p) f 0 (k + 1) 0 (List.replicate (2 + (k + 1) - 1) 0)):=by
      unfold nz
      rw [if_neg (by rw [hf.1];simp),hf.1]
      show mr (sO p [(-a) % p,1] f 2 0 (List.replicate (2 + (k + 1) - 1) 0)) = _
      rw [sO,sO,sO,hf.1]
      have hq:=KC hl (by rw [ht];decide)
      exact hq
    rw [he]
    exact ⟨rfl,hl,ht⟩
  have hmx : max (nz p [(-a) % p,1] f).length g.length = k + 2:=by rw [hm.2.1];omega
  have hl2 : (sW p ((-b) % p) g g.length 0 (rU (nz p [(-a) % p,1] f) (k + 2))).length = k + 2:=by rw [EC,vz _ (by rw [hm.2.1];omega)]
  have ht2 : (sW p ((-b) % p) g g.length 0 (rU (nz p [(-a) % p,1] f) (k + 2))).getD (k + 1) 0 = 1:=by
    rw [TW _ _ _ _ _ _ _ (by omega),rU,hm.2.1,Nat.sub_self,List.replicate_zero,List.append_nil,hm.2.2]
  unfold zU yA
  rw [hmx,KC hl2 (by rw [ht2];decide)]
  exact ⟨hl2,ht2⟩
/- Coefficients: a product's are the convolution's rests, trimmed lists of the same coefficients are the same, products commute; no condition. -/
theorem yM (l : List Int) (k : Nat) : (mr l).getD k 0 = l.getD k 0:=by
  obtain ⟨n,h⟩:=Ho l
  have e : l.getD k 0 = (mr l ++ List.replicate n 0).getD k 0:=congrArg (fun x=>x.getD k 0) h
  rw [e]
  simp only [List.getD_eq_getElem?_getD]
  by_cases hk : k < (mr l).length
  · rw [List.getElem?_append_left hk]
  · rw [List.getElem?_append_right (by omega),List.getElem?_eq_none (by omega)]
    by_cases h2 : k - (mr l).length < n
    · rw [List.getElem?_replicate,if_pos h2];rfl
    · rw [List.getElem?_replicate,if_neg h2]
theorem JH (n : Nat) : ∀ l : List Int,l.length = n → 0 < (mr l).length → (mr l).getD ((mr l).length - 1) 0 ≠ 0:=by
  induction n with
  | zero =>
    intro l hl h
    rw [List.length_eq_zero_iff.1 hl,Hq] at h
    exact absurd h (by simp)
  | succ n ih =>
    intro l hl
    have hne : l ≠ []:=fun e=>by rw [e] at hl;simp at hl
    have hd:=List.dropLast_concat_getLast hne
    have hln : l.dropLast.length = n:=by rw [List.length_dropLast];omega
    generalize l.dropLast = a at hd hln
    generalize l.getLast hne = x at hd
    subst hd
    by_cases hx : x = 0
    · subst hx
      rw [qG]
      exact ih a hln
    · rw [wZ a hx]
      intro _
      simp [hx]
theorem C9 {l m : List Int} (h : ∀ k,l.getD k 0 = m.getD k 0) : mr l = mr m:=by
  have hg : ∀ k,(mr l).getD k 0 = (mr m).getD k 0:=fun k=>by rw [yM,yM,h k]
  have zero : ∀ (a : List Int) (k : Nat),a.length ≤ k → a.getD k 0 = 0:=fun a k hk=>by rw [List.getD_eq_getElem?_getD,List.getElem?_eq_none hk];rfl
  have hlen : (mr l).length = (mr m).length:=by
    rcases Nat.lt_trichotomy (mr l).length (mr m).length with g | g | g
    · have h1:=JH _ m rfl (by omega)
      rw [← hg,zero _ _ (by omega)] at h1
      exact absurd rfl h1
    · exact g
    · have h1:=JH _ l rfl (by omega)
      rw [hg,zero _ _ (by omega)] at h1
      exact absurd rfl h1
  apply List.ext_getElem hlen
  intro i h1 h2
  have h3:=hg i
  rw [List.getD_eq_getElem?_getD,List.getD_eq_getElem?_getD,List.getElem?_eq_getElem h1,List.getElem?_eq_getElem h2] at h3
  exact h3
/-- The number k of x^i g. -/
def sh (g : List Int) (i k : Nat) : Int:=if i ≤ k then g.getD (k - i) 0 else 0
theorem Aj (a : List Int) {k : Nat} (hk : a.length ≤ k) : a.getD k 0 = 0:=by rw [List.getD_eq_getElem?_getD,List.getElem?_eq_none hk];rfl
theorem Rp (o : List Int) (n k : Nat) (x : Int) (hn : n < o.length) : (o.set n x).getD k 0 = if k = n then x else o.getD k 0:=by
  simp only [List.getD_eq_getElem?_getD]
  by_cases h : k = n
  · subst h;rw [List.getElem?_set_self hn,if_pos rfl];rfl
  · rw [List.getElem?_set_ne (Ne.symm h),if_neg h]
theorem TZ (p c : Int) (g : List Int) (i d : Nat) : ∀ (j : Nat) (o : List Int),j + d = g.length → i + g.length ≤ o.length → ∀ k,(oV p c g i d j o).getD k 0 = if i + j ≤ k∧k < i + g.length then (o.getD k 0 + c * g.getD (k - i) 0) % p else o.getD k 0:=by
  induction d with
  | zero =>
    intro j o hj ho k
    rw [oV,if_neg (by omega)]
  | succ d ih =>
    intro j o hj ho k
    rw [oV,ih (j + 1) _ (by omega) (by rw [List.length_set];exact ho) k,Rp _ _ _ _ (by omega)]
    by_cases h1 : k = i + j
    · rw [if_neg (by omega),if_pos h1,if_pos (by omega),h1,show i + j - i = j from by omega]
    · rw [if_neg h1]
      by_cases h2 : i + (j + 1) ≤ k∧k < i + g.length
      · rw [if_pos h2,if_pos (by omega)]
      · rw [if_neg h2,if_neg (by omega)]
theorem WR {p : Int} (hp : 0 < p) (c : Int) (g : List Int) (i : Nat) (o : List Int) (ho : i + g.length ≤ o.length) (hn : Nm p o) (k : Nat) : (oV p c g i g.length 0 o).getD k 0 = (o.getD k 0 + c * sh g i k) % p:=by
  rw [TZ p c g i g.length 0 o (by omega) ho k,sh]
  have hb:=hn.C8 hp k
  by_cases h : i ≤ k
  · rw [if_pos h]
    by_cases h2 : k < i + g.length
    · rw [if_pos (by omega)]
    · rw [if_neg (by omega),Aj g (k:=k - i) (by omega),Int.mul_zero,Int.add_zero,Int.emod_eq_of_lt hb.1 hb.2]
  · rw [if_neg (by omega),if_neg h,Int.mul_zero,Int.add_zero,Int.emod_eq_of_lt hb.1 hb.2]
theorem KI (a b p : Int) : (a % p + b) % p = (a + b) % p:=by rw [Int.add_emod,Int.emod_emod,← Int.add_emod]
theorem Ua {g : Nat → Int} {n : Nat} (h : ∀ i,i < n → g i = 0) : sumTo g n = 0:=by
  induction n with
  | zero=>rfl
  | succ n ih=>rw [sumTo,ih (fun i hi=>h i (by omega)),h n (by omega),Int.add_zero]
theorem Ak (h : Nat → Int) (n : Nat) : sumTo h (n + 1) = h 0 + sumTo (fun t=>h (t + 1)) n:=by
  induction n with
  | zero=>simp [sumTo]
  | succ n ih =>
    rw [sumTo,ih,sumTo,Int.add_assoc]
theorem Pg {p : Int} (hp : 0 < p) (f g : List Int) (d : Nat) : ∀ (i : Nat) (o : List Int),i + d = f.length → f.length + g.length ≤ o.length + 1 → Nm p o → ∀ k,(sO p f g d i o).getD k 0 = (o.getD k 0 + sumTo (fun t=>f.getD (i + t) 0 * sh g (i + t) k) d) % p:=by
  induction d with
  | zero =>
    intro i o hi ho hn k
    have hb:=hn.C8 hp k
    rw [sO,sumTo,Int.add_zero,Int.emod_eq_of_lt hb.1 hb.2]
  | succ d ih =>
    intro i o hi ho hn k
    rw [sO,ih (i + 1) _ (by omega) (by rw [sZ];exact ho) (Df hp _ _ _ _ _ _ hn) k,WR hp _ _ _ _ (by omega) hn,KI,Ak,Int.add_assoc]
    simp only [Nat.add_zero,Nat.add_assoc,Nat.add_comm 1]
theorem afD {g : List Int} {i k : Nat} (h : i + g.length ≤ k) : sh g i k = 0:=by
  rw [sh,if_pos (by omega),Aj g (by omega)]
/-- A product's numbers. -/
theorem Hr {p : Int} (hp : 0 < p) (f g : List Int) (k : Nat) : (nz p f g).getD k 0 = sumTo (fun t=>f.getD t 0 * sh g t k) f.length % p:=by
  unfold nz
  split
  · rename_i h
    have hz : ∀ t,t < f.length → f.getD t 0 * sh g t k = 0:=fun t ht=>by
      rcases h with h | h
      · omega
      · have : sh g t k = 0:=by
          unfold sh
          split
          · exact Aj g (by omega)
          · rfl
        rw [this,Int.mul_zero]
    rw [Ua hz];simp
  · rename_i h
    rw [yM,Pg hp f g f.length 0 _ (by omega) (by rw [List.length_replicate];omega) (Nm.zeros hp _) k]
    have hz : (List.replicate (f.length + g.length - 1) (0 : Int)).getD k 0 = 0:=by
      rw [List.getD_eq_getElem?_getD,List.getElem?_replicate]
      split <;> rfl
    rw [hz,Int.zero_add]
    simp only [Nat.zero_add]
theorem zm {h : Nat → Int} {n : Nat} (hz : ∀ t,n ≤ t → h t = 0) (d : Nat) : sumTo h (n + d) = sumTo h n:=by
  induction d with
  | zero=>rfl
  | succ d ih=>rw [← Nat.add_assoc,sumTo,ih,hz _ (by omega),Int.add_zero]
theorem sumTo_congr {g h : Nat → Int} (n : Nat) (e : ∀ t,t < n → g t = h t) : sumTo g n = sumTo h n:=by
  induction n with
  | zero=>rfl
  | succ n ih=>rw [sumTo,sumTo,ih (fun t ht=>e t (by omega)),e n (by omega)]
theorem Ph (n : Nat) : ∀ h : Nat → Int,sumTo h (n + 1) = sumTo (fun t=>h (n - t)) (n + 1):=by
  induction n with
  | zero=>intro h;simp [sumTo]
  | succ n ih =>
    intro h
    rw [Ak h,ih (fun t=>h (t + 1))]
    have e : sumTo (fun t=>h (n + 1 - t)) (n + 1) = sumTo (fun t=>h (n - t + 1)) (n + 1):=sumTo_congr _ (fun t ht=>by rw [show n + 1 - t = n - t + 1 from by omega])
    have e2 : sumTo (fun t=>h (n + 1 - t)) (n + 1 + 1) = sumTo (fun t=>h (n + 1 - t)) (n + 1) + h (n + 1 - (n + 1)):=rfl
    rw [e2,e,Nat.sub_self,Int.add_comm]
/-- The convolution. -/
theorem Rq (f g : List Int) (k : Nat) : sumTo (fun t=>f.getD t 0 * sh g t k) f.length = sumTo (fun t=>f.getD t 0 * g.getD (k - t) 0) (k + 1):=by
  have h1 : ∀ t,f.length ≤ t → f.getD t 0 * sh g t k = 0:=fun t ht=>by rw [Aj f ht,Int.zero_mul]
  have h2 : ∀ t,k + 1 ≤ t → f.getD t 0 * sh g t k = 0:=fun t ht=>by rw [sh,if_neg (by omega),Int.mul_zero]
  have h3 : sumTo (fun t=>f.getD t 0 * sh g t k) f.length = sumTo (fun t=>f.getD t 0 * sh g t k) (k + 1):=by
    rw [← zm h1 (k + 1),← zm h2 f.length,Nat.add_comm]
  rw [h3]
  exact sumTo_congr _ (fun t ht=>by rw [sh,if_pos (by omega)])
theorem Em (p : Int) (f g : List Int) : mr (nz p f g) = nz p f g:=by
  have tt : ∀ l : List Int,mr (mr l) = mr l:=fun l=>C9 (fun k=>yM l k)
  unfold nz
  split
  · exact Hq
  · exact tt _
theorem Jo {p : Int} (hp : 0 < p) (f g : List Int) : nz p f g = nz p g f:=by
  rw [← Em p f g,← Em p g f]
  refine C9 fun k=>?_
  rw [Hr hp,Hr hp,Rq,Rq,Ph]
  congr 1
  refine sumTo_congr _ fun t ht=>?_
  rw [show k - (k - t) = t from by omega,Int.mul_comm]
/- Coefficients of a sum of polynomials. -/
theorem Ub (p c : Int) (g : List Int) (d : Nat) : ∀ (i : Nat) (o : List Int),i + d ≤ o.length → ∀ j,(sW p c g d i o).getD j 0 = if i ≤ j∧j < i + d then (o.getD j 0 + c * g.getD j 0) % p else o.getD j 0:=by
  induction d with
  | zero =>
    intro i o h j
    rw [sW,if_neg (by omega)]
  | succ d ih =>
    intro i o h j
    rw [sW,ih (i + 1) _ (by rw [List.length_set];omega) j,Rp _ _ _ _ (by omega)]
    by_cases h1 : j = i
    · subst h1
      rw [if_neg (by omega),if_pos rfl,if_pos (by omega)]
    · rw [if_neg h1]
      by_cases h2 : i + 1 ≤ j∧j < i + 1 + d
      · rw [if_pos h2,if_pos (by omega)]
      · rw [if_neg h2,if_neg (by omega)]
theorem Uc (f : List Int) (n j : Nat) : (rU f n).getD j 0 = f.getD j 0:=by
  unfold rU
  simp only [List.getD_eq_getElem?_getD]
  by_cases h : j < f.length
  · rw [List.getElem?_append_left h]
  · rw [List.getElem?_append_right (by omega),List.getElem?_replicate,List.getElem?_eq_none (l:=f) (by omega)]
    split <;> rfl
theorem He {f : List Int} {j : Nat} (h : f.length ≤ j) : f.getD j 0 = 0:=by rw [List.getD_eq_getElem?_getD,List.getElem?_eq_none h];rfl
theorem MQ {p : Int} (hp : 0 < p) {f : List Int} (g : List Int) (k : Int) (hf : Nm p f) (j : Nat) : (yA p f g k).getD j 0 = (f.getD j 0 + k * g.getD j 0) % p:=by
  unfold yA
  rw [yM,Ub p k g g.length 0 _ (by rw [vz f (by omega)];omega),Uc]
  by_cases h : j < g.length
  · rw [if_pos ⟨Nat.zero_le _,by omega⟩]
  · rw [if_neg (by omega),He (f:=g) (by omega),Int.mul_zero,Int.add_zero]
    have:=hf.C8 hp j
    exact (Int.emod_eq_of_lt this.1 this.2).symm
theorem TM (l : List Int) : mr (mr l) = mr l:=C9 (fun k=>by rw [yM])
/- Powers modulo p: what the program and the reference compute; no condition. -/
theorem Dg {p : Int} (hp : Pm p) {x y : Int} (hx : 0 ≤ x∧x < p) (hy : 0 ≤ y∧y < p) : jm.f p x y = some (x * y % p):=by
  unfold jm.f
  have h:=BI hp hx.1 hx.2 hy.1 hy.2
  rw [df (by omega) (by omega),zl hp];rfl
def Dh (p : Int) : Nat → Int → Nat → Int → Int
  | 0,_,_,o=>o
  | d + 1,x,k,o=>if k = 0 then o else Dh p d (x * x % p) (k / 2) (if k % 2 = 1 then o * x % p else o)
theorem WS {p : Int} (hp : 0 < p) (d : Nat) : ∀ (x : Int) (k : Nat) (o : Int),0 ≤ o∧o < p → 0 ≤ Dh p d x k o∧Dh p d x k o < p:=by
  induction d with
  | zero=>intro x k o h;exact h
  | succ d ih =>
    intro x k o h
    rw [Dh]
    split
    · exact h
    · refine ih _ _ _ ?_
      split
      · exact mi hp _
      · exact h
theorem half {k : Nat} (h : k < 4611686018427387904) : wrap64 (Int.tdiv (k : Int) 2) = ((k / 2 : Nat) : Int):=by
  rw [Int.tdiv_eq_ediv_of_nonneg (by omega),df (by omega) (by omega)];omega
theorem odd (k : Nat) : Int.tmod (k : Int) 2 = ((k % 2 : Nat) : Int):=by rw [lU (by omega)];omega
theorem Pi {p : Int} (hp : Pm p) (d : Nat) : ∀ (x : Int) (k : Nat) (o : Int),k ≤ d → k < 4611686018427387904 → 0 ≤ x∧x < p → 0 ≤ o∧o < p →
    Ev (fun n=>fE.l0 n p x (k : Int) o) (Dh p d x k o):=by
  induction d with
  | zero =>
    intro x k o hk hk2 hx ho
    refine Ev.step (fun n=>by rw [fE.l0]) ?_
    exact Ev.neg (by omega) (Ev.now _)
  | succ d ih =>
    intro x k o hk hk2 hx ho
    rw [Dh]
    by_cases h : k = 0
    · rw [if_pos h]
      refine Ev.step (fun n=>by rw [fE.l0]) ?_
      exact Ev.neg (by omega) (Ev.now _)
    · rw [if_neg h]
      refine Ev.step (fun n=>by rw [fE.l0]) ?_
      refine Ev.pos (by omega) ?_
      rw [odd,half hk2]
      by_cases g : k % 2 = 1
      · rw [if_pos g]
        refine Ev.pos (by omega) (Ev.jl (Dg hp ho hx) (Ev.jl (Dg hp hx hx) ?_))
        exact ih _ _ _ (by omega) (by omega) (mi hp.pos _) (mi hp.pos _)
      · rw [if_neg g]
        refine Ev.neg (by omega) (Ev.jl (Dg hp hx hx) ?_)
        exact ih _ _ _ (by omega) (by omega) (mi hp.pos _) ho
theorem Pj {p : Int} (hp : Pm p) (d : Nat) : ∀ (x : Int) (k : Nat) (o : Int),k ≤ d → k < 4611686018427387904 → 0 ≤ x∧x < p → 0 ≤ o∧o < p →
    Ev (fun n=>fQ.l0 n p (k : Int) o x) (Dh p d x k o):=by
  induction d with
  | zero =>
    intro x k o hk hk2 hx ho
    refine Ev.step (fun n=>by rw [fQ.l0]) ?_
    refine Ev.neg (by omega) (Ev.neg hp.ne (Ev.mI ?_))
    rw [lU ho.1,Int.emod_eq_of_lt ho.1 ho.2];rfl
  | succ d ih =>
    intro x k o hk hk2 hx ho
    have h1:=BI hp hx.1 hx.2 hx.1 hx.2
    have h2:=BI hp ho.1 ho.2 hx.1 hx.2
    rw [Dh]
    by_cases h : k = 0
    · rw [if_pos h]
      refine Ev.step (fun n=>by rw [fQ.l0]) ?_
      refine Ev.neg (by omega) (Ev.neg hp.ne (Ev.mI ?_))
      rw [lU ho.1,Int.emod_eq_of_lt ho.1 ho.2]
    · rw [if_neg h]
      refine Ev.step (fun n=>by rw [fQ.l0]) ?_
      refine Ev.pos (by omega) ?_
      rw [odd,half hk2,df (x:=x * x) (by omega) (by omega),df (x:=o * x) (by omega) (by omega),lU (a:=x * x) (by omega),lU (a:=o * x) (by omega)]
      by_cases g : k % 2 = 1
      · rw [if_pos g]
        refine Ev.pos (by omega) (Ev.neg hp.ne ?_)
        exact ih _ _ _ (by omega) (by omega) (mi hp.pos _) (mi hp.pos _)
      · rw [if_neg g]
        refine Ev.neg (by omega) (Ev.neg hp.ne ?_)
        exact ih _ _ _ (by omega) (by omega) (mi hp.pos _) ho
/-- x to the k-th power modulo p. -/
def Pk (p x : Int) (k : Nat) : Int:=Dh p k x k 1
theorem aaZ {p : Int} (hp : Pm p) (x : Int) (k : Nat) : 0 ≤ Pk p x k∧Pk p x k < p:=WS hp.pos _ _ _ _ (by have:=hp.two;omega)
theorem Pn {p : Int} (hp : Pm p) {x : Int} (hx : 0 ≤ x∧x < p) (k : Nat) (hk : k < 4611686018427387904) : Ev (fun n=>fE.f n p x (k : Int)) (Pk p x k):=by
  have h2:=hp.two
  unfold fE.f Pk
  refine Ev.jl (zl hp _) ?_
  rw [Int.emod_eq_of_lt (by omega) (by omega)]
  exact Pi hp k x k 1 (Nat.le_refl _) hk hx (by omega)
theorem Po {p : Int} (hp : Pm p) {x : Int} (hx : 0 ≤ x∧x < p) (k : Nat) (hk : k < 4611686018427387904) : Ev (fun n=>fQ.f n p x (k : Int)) (Pk p x k):=by
  have h2:=hp.two
  unfold fQ.f Pk
  refine Ev.jl (a:=x) ?_ (Pj hp k x k 1 (Nat.le_refl _) hk hx (by omega))
  unfold jq.f
  rw [if_neg hp.ne,KJ hp,Int.emod_eq_of_lt hx.1 hx.2]
/- Inverses and quotients modulo p: what the program and the reference compute; no condition. -/
/-- The power p - 2. -/
def wT (p x : Int) : Int:=Pk p x (p.toNat - 2)
theorem FO {p : Int} (hp : Pm p) (x : Int) : 0 ≤ wT p x∧wT p x < p:=aaZ hp _ _
theorem Rs {p : Int} (hp : Pm p) : wrap64 (p - 2) = ((p.toNat - 2 : Nat) : Int):=by
  have:=hp.two
  have:=hp.top
  rw [df (by omega) (by omega)]
  omega
theorem Pp {p : Int} (hp : Pm p) {x : Int} (hx : 0 ≤ x∧x < p) : Ev (fun n=>kK.f n p x) (wT p x):=by
  have:=hp.top
  unfold kK.f wT
  rw [Rs hp]
  exact Ev.bind (Pn hp hx _ (by omega)) (Ev.now _)
theorem BJ {p : Int} (hp : Pm p) {x : Int} (hx : 0 ≤ x∧x < p) : Ev (fun n=>iO.f n p x) (wT p x):=by
  have:=hp.top
  unfold iO.f wT
  rw [Rs hp]
  exact Ev.bind (Po hp hx _ (by omega)) (Ev.now _)
theorem I8 (c x p : Int) : (c - x % p) % p = (c - x) % p:=by
  rw [Int.sub_emod,Int.emod_emod,← Int.sub_emod]
/- Determinants modulo p by elimination, as one plain function; and a matrix in memory: a block of slices, one block a row, all of them different. No condition beside the ones named. -/
open Go Go.RowKit Go.Proofs.YtnpepkpogohcmaaW.PrintWords Go.Proofs.YtnpepkpogohcmaaW.PrintLast Go.Proofs.YtnpepkpogohcmaaW.PrintMore
/-! ### the plain function -/
/-- The first place from i on, d places at most, whose row has a number other than 0 in column c. -/
def pivot (M : Nat → List Int) (c : Nat) : Nat → Nat → Nat
  | 0,i=>i
  | d + 1,i=>if (M i).getD c 0 = 0 then pivot M c d (i + 1) else i
def rz (M : Nat → List Int) (c j : Nat) : Nat → List Int:=fun i=>if i = c then M j else if i = j then M c else M i
def pI (p f : Int) (r own : List Int) (n : Nat) : List Int:=(List.range n).map fun k=>(r.getD k 0 - f * own.getD k 0) % p
def Di (p v : Int) (n c : Nat) (M : Nat → List Int) : Nat → List Int:=fun i=>if c < i then pI p ((M i).getD c 0 * v % p) (M i) (M c) n else M i
def zJ (p : Int) (n : Nat) : Nat → Nat → (Nat → List Int) → Int → Int
  | 0,_,_,o=>o
  | d + 1,c,M,o =>
    if pivot M c (n - c) c = n then 0
    else zJ p n d (c + 1) (Di p (wT p ((M (pivot M c (n - c) c)).getD c 0)) n c (rz M c (pivot M c (n - c) c)))
      ((if pivot M c (n - c) c = c then o else (-o) % p) * (M (pivot M c (n - c) c)).getD c 0 % p)
def Pq (p : Int) (rows : List (List Int)) : Int:=zJ p rows.length rows.length 0 (fun i=>rows.getD i []) 1
/-- Square rows of numbers modulo p. -/
def Ps (p : Int) (rows : List (List Int)) : Prop:=(2 ≤ p∧p ≤ 10007)∧rows.length ≤ 1000∧∀ r ∈ rows,r.length = rows.length∧Nm p r
instance (p : Int) (rows : List (List Int)) : Decidable (Ps p rows):=by unfold Ps;infer_instance
theorem WT (M : Nat → List Int) (c d : Nat) : ∀ i,i ≤ pivot M c d i∧pivot M c d i ≤ i + d:=by
  induction d with
  | zero=>intro i;exact ⟨Nat.le_refl _,Nat.le_refl _⟩
  | succ d ih =>
    intro i
    rw [pivot]
    split
    · have:=ih (i + 1);omega
    · omega
theorem Al (p f : Int) (r own : List Int) (n : Nat) : (pI p f r own n).length = n:=by simp [pI]
theorem Ht {p : Int} (hp : 0 < p) (f : Int) (r own : List Int) (n : Nat) : Nm p (pI p f r own n):=fun x hx=>by
  obtain ⟨i,_,rfl⟩:=List.mem_map.1 hx
  exact mi hp _
/-! ### a matrix in memory -/
/-- e: the type of the rows' slices, e': of the numbers; the first m rows are there. -/
structure Mx (e e' : TypeId) (w : World) (b g n m : Nat) (β κ : Nat → Nat) (M : Nat → List Int) : Prop where
  out : w.heap[g]? = some (.cells ((List.range n).map fun i=>if i < m then Value.slice (some ⟨β i,0,none⟩) n (κ i) else Value.slice none 0 0).toArray e (0,0))
  bg : b ≤ g
  mn : m ≤ n
  len : ∀ i,i < m → (M i).length = n
  cap : ∀ i,i < m → n ≤ κ i
  bb : ∀ i,i < m → b ≤ β i
  row : ∀ i,i < m → ∃ cur : Array Value,w.heap[β i]? = some (.cells cur e' (0,0))∧∀ k,k < n → cur[k]? = some (.int .i64 ((M i).getD k 0))
  ne : ∀ i j,i < m → j < m → i ≠ j → β i ≠ β j
section
variable {e e' : TypeId} {w w1 : World} {b g n m : Nat} {β κ : Nat → Nat} {M : Nat → List Int}
theorem Mx.aa0 (h : Mx e e' w b g n m β κ M) (he : e ≠ e') {i : Nat} (hi : i < m) : β i ≠ g:=by
  intro eq
  obtain ⟨cur,hc,_⟩:=h.row i hi
  rw [eq,h.out] at hc
  injection hc with hc
  injection hc with _ hc
  exact he hc
theorem Mx.outer (h : Mx e e' w b g n m β κ M) {i : Nat} (hi : i < m) : w.cell? ⟨g,i,none⟩ = some (.slice (some ⟨β i,0,none⟩) n (κ i)):=by
  have hm:=h.mn
  rw [dH h.out i,List.getElem?_toArray,List.getElem?_map,List.getElem?_range (by omega)]
  simp [hi]
theorem Mx.Dj (h : Mx e e' w b g n m β κ M) (i : Nat) : w.frozen? ⟨g,i,none⟩ = false:=kH h.out i
theorem Mx.cell (h : Mx e e' w b g n m β κ M) {i k : Nat} (hi : i < m) (hk : k < n) : w.cell? ⟨β i,k,none⟩ = some (.int .i64 ((M i).getD k 0)):=by
  obtain ⟨cur,hc,hr⟩:=h.row i hi
  rw [dH hc k]
  exact hr k hk
theorem Mx.frozen (h : Mx e e' w b g n m β κ M) {i : Nat} (hi : i < m) (k : Nat) : w.frozen? ⟨β i,k,none⟩ = false:=by
  obtain ⟨cur,hc,_⟩:=h.row i hi
  exact kH hc k
theorem Mx.lt (h : Mx e e' w b g n m β κ M) {i : Nat} (hi : i < m) : β i < w.heap.size:=by
  obtain ⟨cur,hc,_⟩:=h.row i hi
  exact uU hc
theorem Mx.step (h : Mx e e' w b g n m β κ M) (hm : ∀ k,b ≤ k → k < w.heap.size → w1.heap[k]? = w.heap[k]?) : Mx e e' w1 b g n m β κ M :=
  ⟨(hm g h.bg (uU h.out)).trans h.out,h.bg,h.mn,h.len,h.cap,h.bb,fun i hi=>by
    obtain ⟨cur,hc,hr⟩:=h.row i hi
    exact ⟨cur,(hm _ (h.bb i hi) (uU hc)).trans hc,hr⟩,h.ne⟩
theorem Mx.below (h : Mx e e' w b g n m β κ M) (hb : Below w.heap.size w w1) : Mx e e' w1 b g n m β κ M:=h.step fun k _ hk=>hb.block k hk
/-- A store into another block than the matrix's. -/
theorem Mx.far (h : Mx e e' w b g n m β κ M) {q : Nat} (hg : q ≠ g) (hq : ∀ i,i < m → q ≠ β i) (j : Nat) (u : Value) : Mx e e' (w.setCell ⟨q,j,none⟩ u) b g n m β κ M :=
  ⟨(Below.heap_setCell w ⟨q,j,none⟩ u g (Ne.symm hg)).trans h.out,h.bg,h.mn,h.len,h.cap,h.bb,fun i hi=>by
    obtain ⟨cur,hc,hr⟩:=h.row i hi
    exact ⟨cur,(Below.heap_setCell w ⟨q,j,none⟩ u _ (Ne.symm (hq i hi))).trans hc,hr⟩,h.ne⟩
/-- A number of a row is set. -/
theorem Mx.put (h : Mx e e' w b g n m β κ M) (he : e ≠ e') {i k : Nat} (hi : i < m) (hk : k < n) (x : Int) :
    Mx e e' (w.setCell ⟨β i,k,none⟩ (.int .i64 x)) b g n m β κ (fun t=>if t = i then (M i).set k x else M t):=by
  refine ⟨(Below.heap_setCell w ⟨β i,k,none⟩ _ g (Ne.symm (h.aa0 he hi))).trans h.out,h.bg,h.mn,fun t ht=>?_,h.cap,h.bb,fun t ht=>?_,h.ne⟩
  · by_cases c : t = i
    · rw [if_pos c,List.length_set];exact h.len i hi
    · rw [if_neg c];exact h.len t ht
  · by_cases c : t = i
    · subst c
      obtain ⟨cur,hc,hr⟩:=h.row t ht
      refine ⟨cur.setIfInBounds k (.int .i64 x),ug hc k _,fun j hj=>?_⟩
      have hl:=h.len t ht
      rw [if_pos rfl]
      by_cases d : k = j
      · subst d
        have hs : k < cur.size:=by
          have:=hr k hk
          exact (Array.getElem?_eq_some_iff.1 this).1
        rw [Array.getElem?_setIfInBounds_self_of_lt hs,List.getD_eq_getElem?_getD,List.getElem?_set_self (by omega)];rfl
      · rw [Array.getElem?_setIfInBounds_ne d,hr j hj,List.getD_eq_getElem?_getD,List.getD_eq_getElem?_getD,List.getElem?_set_ne d]
    · obtain ⟨cur,hc,hr⟩:=h.row t ht
      refine ⟨cur,(Below.heap_setCell w ⟨β i,k,none⟩ _ _ (h.ne t i ht hi c)).trans hc,fun j hj=>?_⟩
      rw [if_neg c]
      exact hr j hj
/-- Two rows change their places. -/
theorem Mx.swap (h : Mx e e' w b g n n β κ M) (he : e ≠ e') {c j : Nat} (hc : c < n) (hj : j < n) :
    Mx e e' ((w.setCell ⟨g,c,none⟩ (.slice (some ⟨β j,0,none⟩) n (κ j))).setCell ⟨g,j,none⟩ (.slice (some ⟨β c,0,none⟩) n (κ c))) b g n n
      (fun i=>if i = j then β c else if i = c then β j else β i) (fun i=>if i = j then κ c else if i = c then κ j else κ i) (fun i=>if i = j then M c else if i = c then M j else M i):=by
  refine ⟨?_,h.bg,Nat.le_refl _,fun i hi=>?_,fun i hi=>?_,fun i hi=>?_,fun i hi=>?_,fun i t hi ht hit=>?_⟩
  · have h1:=ug (ug h.out c (.slice (some ⟨β j,0,none⟩) n (κ j))) j (.slice (some ⟨β c,0,none⟩) n (κ c))
    rw [h1]
    congr 2
    apply Array.ext
    · simp
    · intro i h1 h2
      have hi : i < n:=by simpa using h2
      simp only [List.getElem_toArray,List.getElem_map,List.getElem_range,hi,if_true]
      by_cases c1 : i = j
      · subst c1;simp
      · by_cases c2 : i = c
        · subst c2;simp [Ne.symm c1,c1]
        · simp [Ne.symm c1,Ne.symm c2,c1,c2,hi]
  · by_cases c1 : i = j
    · rw [if_pos c1];exact h.len c hc
    · by_cases c2 : i = c
      · rw [if_neg c1,if_pos c2];exact h.len j hj
      · rw [if_neg c1,if_neg c2];exact h.len i hi
  · by_cases c1 : i = j
    · rw [if_pos c1];exact h.cap c hc
    · by_cases c2 : i = c
      · rw [if_neg c1,if_pos c2];exact h.cap j hj
      · rw [if_neg c1,if_neg c2];exact h.cap i hi
  · by_cases c1 : i = j
    · rw [if_pos c1];exact h.bb c hc
    · by_cases c2 : i = c
      · rw [if_neg c1,if_pos c2];exact h.bb j hj
      · rw [if_neg c1,if_neg c2];exact h.bb i hi
  · have far : ∀ q,q < n → ((w.setCell ⟨g,c,none⟩ (.slice (some ⟨β j,0,none⟩) n (κ j))).setCell ⟨g,j,none⟩ (.slice (some ⟨β c,0,none⟩) n (κ c))).heap[β q]? = w.heap[β q]?:=by
      intro q hq
      rw [Below.heap_setCell _ _ _ _ (h.aa0 he hq),Below.heap_setCell _ _ _ _ (h.aa0 he hq)]
    by_cases c1 : i = j
    · simp only [if_pos c1]
      obtain ⟨cur,hh,hr⟩:=h.row c hc
      exact ⟨cur,(far c hc).trans hh,hr⟩
    · by_cases c2 : i = c
      · simp only [if_neg c1,if_pos c2]
        obtain ⟨cur,hh,hr⟩:=h.row j hj
        exact ⟨cur,(far j hj).trans hh,hr⟩
      · simp only [if_neg c1,if_neg c2]
        obtain ⟨cur,hh,hr⟩:=h.row i hi
        exact ⟨cur,(far i hi).trans hh,hr⟩
  · have n1:=h.ne
    by_cases a1 : i = j
    · by_cases a2 : t = c
      · rw [if_pos a1,if_neg (by omega),if_pos a2]
        by_cases a3 : c = j
        · omega
        · exact n1 c j hc hj a3
      · rw [if_pos a1,if_neg (by omega),if_neg a2]
        by_cases a3 : c = t
        · omega
        · exact n1 c t hc ht a3
    · by_cases a2 : i = c
      · rw [if_neg a1,if_pos a2]
        by_cases a3 : t = j
        · rw [if_pos a3];exact n1 j c hj hc (by omega)
        · rw [if_neg a3,if_neg (by omega)];exact n1 j t hj ht (by omega)
      · rw [if_neg a1,if_neg a2]
        by_cases a3 : t = j
        · rw [if_pos a3];exact n1 i c hi hc a2
        · by_cases a4 : t = c
          · rw [if_neg a3,if_pos a4];exact n1 i j hi hj a1
          · rw [if_neg a3,if_neg a4];exact n1 i t hi ht hit
/-- One more row is put. -/
theorem Mx.more (h : Mx e e' w b g n m β κ M) (he : e ≠ e') (hm : m < n) {q c : Nat} {cur : Array Value} (hq : w.heap[q]? = some (.cells cur e' (0,0))) (hb : b ≤ q) (hc : n ≤ c) (l : List Int) (hl : l.length = n)
    (hr : ∀ k,k < n → cur[k]? = some (.int .i64 (l.getD k 0))) (hne : ∀ i,i < m → β i ≠ q) :
    Mx e e' (w.setCell ⟨g,m,none⟩ (.slice (some ⟨q,0,none⟩) n c)) b g n (m + 1) (fun i=>if i = m then q else β i) (fun i=>if i = m then c else κ i) (fun i=>if i = m then l else M i):=by
  have hqg : q ≠ g:=by
    intro eq
    rw [eq,h.out] at hq
    injection hq with hq
    injection hq with _ hq
    exact he hq
  refine ⟨?_,h.bg,hm,fun i hi=>?_,fun i hi=>?_,fun i hi=>?_,fun i hi=>?_,fun i j hi hj hij=>?_⟩
  · rw [ug h.out m]
    congr 2
    apply Array.ext
    · simp
    · intro i h1 h2
      have hi : i < n:=by simpa using h2
      simp only [List.getElem_toArray,List.getElem_map,List.getElem_range]
      by_cases c1 : i = m
      · subst c1;simp
      · by_cases c2 : i < m
        · simp [Ne.symm c1,c1,c2,show i < m + 1 from by omega]
        · simp [Ne.symm c1,c2,show ¬ i < m + 1 from by omega]
  · by_cases c1 : i = m
    · rw [if_pos c1];exact hl
    · rw [if_neg c1];exact h.len i (by omega)
  · by_cases c1 : i = m
    · rw [if_pos c1];exact hc
    · rw [if_neg c1];exact h.cap i (by omega)
  · by_cases c1 : i = m
    · rw [if_pos c1];exact hb
    · rw [if_neg c1];exact h.bb i (by omega)
  · by_cases c1 : i = m
    · simp only [if_pos c1]
      exact ⟨cur,(Below.heap_setCell w ⟨g,m,none⟩ _ q hqg).trans hq,hr⟩
    · simp only [if_neg c1]
      obtain ⟨cu,hh,hr'⟩:=h.row i (by omega)
      exact ⟨cu,(Below.heap_setCell w ⟨g,m,none⟩ _ _ (h.aa0 he (by omega))).trans hh,hr'⟩
  · by_cases c1 : i = m
    · rw [if_pos c1,if_neg (by omega)];exact Ne.symm (hne j (by omega))
    · rw [if_neg c1]
      by_cases c2 : j = m
      · rw [if_pos c2];exact hne i (by omega)
      · rw [if_neg c2];exact h.ne i j (by omega) (by omega) hij
end
/- Quotients modulo p in the program; no condition. -/
theorem BM {p : Int} (hp : Pm p) {x y : Int} (hx : 0 ≤ x∧x < p) (hy : 0 ≤ y∧y < p) : Ev (fun n=>j5.f n p x y) (x * wT p y % p):=by
  unfold j5.f
  exact Ev.bind (Pp hp hy) (Ev.jl (Dg hp hx (FO hp y)) (Ev.now _))
/- What the walk of the determinant leans on: a matrix as a list of rows that is read, its making, its cuts, the search for a pivot, and the callees in plain form. -/
theorem addr_add (g c j : Nat) : (⟨g,c,none⟩ : Addr).add j = ⟨g,c + j,none⟩:=by unfold Addr.add;split <;> simp_all
/-- The m rows from c on. -/
def rV (M : Nat → List Int) (c m : Nat) : List (List Int):=(List.range m).map fun j=>M (c + j)
theorem qX (M : Nat → List Int) (c m : Nat) : (rV M c m).length = m:=by simp [rV]
theorem Dk (M : Nat → List Int) (c : Nat) {m j : Nat} (h : j < m) : (rV M c m).getD j [] = M (c + j):=by
  rw [rV,List.getD_eq_getElem?_getD,List.getElem?_map,List.getElem?_range h];rfl
/-- Where the cut from c on begins. -/
def cutAt (g n c : Nat) : Addr:=if n = c then ⟨g,0,none⟩ else ⟨g,c,none⟩
section
variable {e e' : TypeId} {w w1 : World} {b g n m : Nat} {β κ : Nat → Nat} {M : Nat → List Int}
theorem Mx.atv (h : Mx e e' w b g n m β κ M) (hn : n ≤ 1000) {i : Nat} (hi : i < m) : Kd.C (Kd.int .i64) w (some ⟨β i,0,none⟩) n (M i) :=
  ⟨h.len i hi,by omega,fun h0=>⟨_,rfl,fun j p hj=>⟨[.int .i64 p],rfl,rfl,fun t u hu=>by
    cases t with
    | zero =>
      have hl : j < n:=by have:=(List.getElem?_eq_some_iff.1 hj).1;have:=h.len i hi;omega
      have hu : Value.int .i64 p = u:=by simpa using hu
      subst hu
      have he : (⟨β i,0,none⟩ : Addr).add (j * (Kd.int .i64).sz + 0) = ⟨β i,j,none⟩:=by rw [addr_add];show (⟨β i,0 + (j * 1 + 0),none⟩ : Addr) = _;rw [show 0 + (j * 1 + 0) = j from by omega]
      rw [he,h.cell hi hl,List.getD_eq_getElem?_getD,hj];rfl
    | succ t=>simp at hu⟩⟩⟩
theorem Mx.C (h : Mx e e' w b g n n β κ M) (hn : n ≤ 1000) {c : Nat} (hc : c ≤ n) : Kd.C (Kd.slice e' (Kd.int .i64)) w (some (cutAt g n c)) (rV M c (n - c)).length (rV M c (n - c)) :=
  ⟨rfl,by rw [qX];omega,fun h0=>⟨_,rfl,fun j p hj=>by
    rw [qX] at h0
    have hl : j < n - c:=by have:=(List.getElem?_eq_some_iff.1 hj).1;rwa [qX] at this
    have hp : M (c + j) = p:=by
      have:=Dk M c hl
      rw [List.getD_eq_getElem?_getD,hj] at this
      exact this.symm
    subst hp
    have hlen:=h.len (c + j) (by omega)
    refine ⟨[.slice (some ⟨β (c + j),0,none⟩) (M (c + j)).length (κ (c + j))],rfl,⟨_,_,rfl,by rw [hlen];exact h.cap _ (by omega),by rw [hlen];exact h.atv hn (by omega)⟩,fun t u hu=>?_⟩
    cases t with
    | zero =>
      have hu : Value.slice (some ⟨β (c + j),0,none⟩) (M (c + j)).length (κ (c + j)) = u:=by simpa using hu
      subst hu
      have he : (cutAt g n c).add (j * (Kd.slice e' (Kd.int .i64)).sz + 0) = ⟨g,c + j,none⟩:=by
        rw [cutAt,if_neg (by omega),addr_add];show (⟨g,c + (j * 1 + 0),none⟩ : Addr) = _;rw [show c + (j * 1 + 0) = c + j from by omega]
      rw [he,h.outer (show c + j < n from by omega),hlen]
    | succ t=>simp at hu⟩⟩
theorem Mx.afE (h : Mx e e' w b g n m β κ M) {i : Nat} (hm : m ≤ i) (hi : i < n) : w.cell? ⟨g,i,none⟩ = some (.slice none 0 0):=by
  rw [dH h.out i,List.getElem?_toArray,List.getElem?_map,List.getElem?_range hi]
  simp [show ¬ i < m from by omega]
/-- A row of one's own, its block laid open. -/
theorem Hu {e : Nat} {ok : Nat → Prop} {v : Value} {l : List Int} {base : Nat} (h : Kd.R (Kd.int .i64) e w base ok v l) (h0 : 0 < l.length) :
    ∃ q c cur,v = .slice (some ⟨q,0,none⟩) l.length c∧base ≤ q∧l.length ≤ c∧w.heap[q]? = some (.cells cur e (0,0))∧∀ k,k < l.length → cur[k]? = some (.int .i64 (l.getD k 0)):=by
  obtain ⟨q,c,rfl,hb,_,cur,hc⟩:=Kd.yB h h0
  obtain ⟨_,hl,hC⟩:=Kd.aM h
  refine ⟨q,c,cur,rfl,hb,hl,hc,fun k hk=>?_⟩
  obtain ⟨ad,ea,hx⟩:=Kd.ic hC (k : Int) (by omega) (by omega)
  cases ea
  rw [jZ,add_plain,dH hc,kW] at hx
  exact hx
end
/-- The cut from c on. -/
theorem Rt {P : Program} {t e : TypeId} (ht : P.underlying t = some (.slice e)) (hs : (P.info? e).map (fun i=>i.size) = some 1) (g n c : Nat) (hc : c ≤ n) (W : World) :
    (Instr.slice t (.slice (some ⟨g,0,none⟩) n n) (some (.int .i64 (c : Int))) none none).run P W = .ok (.slice (some (cutAt g n c)) (n - c) (n - c)) W:=by
  obtain ⟨i,hi,hsz⟩:=Option.map_eq_some_iff.1 hs
  have hel : P.elem t = e:=by simp [Program.elem,ht]
  have hu : P.underlying t = some (.slice (P.elem t)):=by rw [hel];exact ht
  rw [run_slice_l W t _ n n hu .i64 (c : Int) (Int.natCast_nonneg _) (by omega),hel]
  have hsz : i.size = 1:=hsz
  simp [sizeOf,typeInfo,hi,hsz,sliced,Result.andThen,cutAt,addr_add]
  split <;> rfl
section
variable {P : Program} {ops : Array Oper} {Q : Exit → Act → World → Prop} {rest : List Oper} {oi : Oper} {a : Act} {w : World}
set_option linter.unusedVariables false in
/-- make([][]int64, n). -/
theorem aa1 (N : Tmp) {t e e' : TypeId} {x y : Operand} (n : Nat) (ht : P.underlying t = some (.slice e)) (hinfo : (P.info? e).map (fun i=>(i.zero,i.size,i.bytes)) = some (some (.slice none 0 0),1,24)) (hn : n ≤ 1000) (β κ : Nat → Nat) (M : Nat → List Int)
    (h : ∀ g,g = w.heap.size → ∀ w1,Mx e e' w1 w.heap.size g n 0 β κ M → Below w.heap.size w w1 → wpList P ops Q rest (a.put oi.dst (.slice (some ⟨g,0,none⟩) n n)) w1)
    (hd : oi.dst = some N:=by rfl) (hg : oi.guard = none:=by rfl) (ho : oi.op = .makeSlice t x y:=by rfl) (hx : a.eval x = .int .i64 (n : Int):=by rfl) (hy : a.eval y = .int .i64 (n : Int):=by rfl) : wpList P ops Q (oi :: rest) a w:=by
  obtain ⟨i0,hi,hz⟩:=Option.map_eq_some_iff.1 hinfo
  simp only [Prod.mk.injEq] at hz
  obtain ⟨hz0,hz1,hz2⟩:=hz
  have hr:=run_make (P:=P) w t e i0 _ ht hi hz0 .i64 .i64 (n : Int) (n : Int) (by omega) (by omega) (by rw [hz2];omega) (by omega)
  simp only [Int.toNat_natCast] at hr
  rw [hz1] at hr
  refine Kd.Ep hg (w1:=w.alloc (.cells (madeCells (Value.slice none 0 0).cells (n * 1)) e)) (v:=.slice (some ⟨w.heap.size,0,none⟩) n n) (by simp [execOp,ho,hx,hy,hr]) (h _ rfl _ ?_ (gJ (Below.refl _ _) _))
  have hb:=Kb w (.cells (madeCells (Value.slice none 0 0).cells (n * 1)) e)
  refine ⟨hb.trans ?_,Nat.le_refl _,Nat.zero_le _,fun i hi=>absurd hi (by omega),fun i hi=>absurd hi (by omega),fun i hi=>absurd hi (by omega),fun i hi=>absurd hi (by omega),fun i j hi=>absurd hi (by omega)⟩
  congr 2
  apply Array.ext
  · simp [madeCells]
  · intro i h1 h2
    simp [madeCells,Value.cells,Nat.mod_one]
end
/-! ### two loads of which each may come up first -/
section
variable {P : Program} {ops : Array Oper} {Q : Exit → Act → World → Prop} {S : World → Prop} {ds : List Nat} {T : Bool × List (List Nat × List Nat)} {fuel : Nat} {l : Array Bool} {a a' ai aj : Act} {w : World} {oi oj : Oper} {vi vj : Value}
theorem atw (i j : Nat) (Ni Nj : Tmp) (li lj l' : Array Bool) (HT : aa (mf .any ops = T)) (hS : S w) (h : cO P .any ops Q S ds fuel l' a' w)
    (hi : ops[i]? = some oi:=by rfl) (hj : ops[j]? = some oj:=by rfl) (hNi : oi.dst = some Ni:=by rfl) (hNj : oj.dst = some Nj:=by rfl)
    (hc : (xL T.2 l.toList == [i,j] && l.toList.set i true == li.toList && l.toList.set j true == lj.toList) = true:=by kernel_rfl)
    (hci : (xL T.2 li.toList == [j] && li.toList.set j true == l'.toList) = true:=by kernel_rfl) (hcj : (xL T.2 lj.toList == [i] && lj.toList.set i true == l'.toList) = true:=by kernel_rfl)
    (hdi : i ∉ ds:=by decide) (hdj : j ∉ ds:=by decide)
    (hwi : Region.wanted oi (yielded ops a.tmps) = true:=by rfl) (hwj : Region.wanted oj (yielded ops a.tmps) = true:=by rfl)
    (ri : (execOp a.eval oi).run P w = .ok (.value vi) w:=by (go_simp;with_reducible rfl)) (rj : (execOp a.eval oj).run P w = .ok (.value vj) w:=by (go_simp;with_reducible rfl))
    (hai : a.put (some Ni) vi = ai:=by (simp only [Act.put,ls,lz,ln,jW,nH];rfl)) (haj : a.put (some Nj) vj = aj:=by (simp only [Act.put,ls,lz,ln,jW,nH];rfl))
    (hwj' : Region.wanted oj (yielded ops ai.tmps) = true:=by rfl) (hwi' : Region.wanted oi (yielded ops aj.tmps) = true:=by rfl)
    (rj' : (execOp ai.eval oj).run P w = .ok (.value vj) w:=by first | (go_simp;done) | (go_simp;with_reducible rfl)) (ri' : (execOp aj.eval oi).run P w = .ok (.value vi) w:=by first | (go_simp;done) | (go_simp;with_reducible rfl))
    (h1 : ai.put (some Nj) vj = a':=by (simp only [Act.put,ls,lz,ln,jW,nH];rfl)) (h2 : aj.put (some Ni) vi = a':=by first | (simp only [Act.put,ls,lz,ln,jW,nH];done) | (simp only [Act.put,ls,lz,ln,jW,nH];rfl)) : cO P .any ops Q S ds (fuel + 2) l a w:=by
  subst hai
  subst haj
  exact Ei li lj hi hj hNi hNj (wz HT.out hc) hdi hdj (fun K hK=>Hw hwi hNi ri (hK.out _ _ hS (fun _=>lo_ j Nj l' HT hS h hj hNj hci hdj hwj' rj' h1)))
    (fun K hK=>Hw hwj hNj rj (hK.out _ _ hS (fun _=>lo_ i Ni l' HT hS h hi hNi hcj hdi hwi' ri' h2)))
end
theorem Mx.Pt {e e' : TypeId} {w : World} {b g n m : Nat} {β κ : Nat → Nat} {M : Nat → List Int} (h : Mx e e' w b g n m β κ M) {q : Nat} {cs : Array Value} {t : TypeId} (hb : w.heap[q]? = some (.cells cs t (0,0))) (h1 : t ≠ e) (h2 : t ≠ e') : q ≠ g∧∀ i,i < m → q ≠ β i :=
  ⟨OB hb h.out h1,fun i hi=>by
    obtain ⟨cur,hc,_⟩:=h.row i hi
    exact OB hb hc h2⟩
theorem Mx.congr {e e' : TypeId} {w : World} {b g n m : Nat} {β κ : Nat → Nat} {M M' : Nat → List Int} (h : Mx e e' w b g n m β κ M) (hM : ∀ i,i < m → M i = M' i) : Mx e e' w b g n m β κ M' :=
  ⟨h.out,h.bg,h.mn,fun i hi=>by rw [← hM i hi];exact h.len i hi,h.cap,h.bb,fun i hi=>by rw [← hM i hi];exact h.row i hi,h.ne⟩
theorem Ud {g n c : Nat} (h : c < n) (j : Nat) : (cutAt g n c).add j = ⟨g,c + j,none⟩:=by rw [cutAt,if_neg (by omega),addr_add]
/-! ### a row of which the first k numbers are done -/
def qo (p f : Int) (r own : List Int) (n k : Nat) : List Int:=(List.range n).map fun q=>if q < k then (r.getD q 0 - f * own.getD q 0) % p else r.getD q 0
theorem Am (p f : Int) (r own : List Int) (n k : Nat) : (qo p f r own n k).length = n:=by simp [qo]
theorem M3 (p f : Int) (r own : List Int) {n k q : Nat} (h : q < n) : (qo p f r own n k).getD q 0 = if q < k then (r.getD q 0 - f * own.getD q 0) % p else r.getD q 0:=by
  rw [qo,List.getD_eq_getElem?_getD,List.getElem?_map,List.getElem?_range h];rfl
theorem KL (p f : Int) {r : List Int} (own : List Int) {n : Nat} (h : r.length = n) : qo p f r own n 0 = r:=by
  subst h
  apply List.ext_getElem (Am _ _ _ _ _ _)
  intro i h1 h2
  simp [qo,List.getD_eq_getElem?_getD,List.getElem?_eq_getElem h2]
theorem M4 (p f : Int) (r own : List Int) (n : Nat) : qo p f r own n n = pI p f r own n:=by
  unfold qo pI
  refine List.map_congr_left fun q hq=>?_
  rw [if_pos (List.mem_range.1 hq)]
theorem M5 (p f : Int) (r own : List Int) (n k : Nat) : (qo p f r own n k).set k ((r.getD k 0 - f * own.getD k 0) % p) = qo p f r own n (k + 1):=by
  apply List.ext_getElem (by rw [List.length_set,Am,Am])
  intro i h1 h2
  rw [List.getElem_set]
  by_cases hi : k = i
  · subst hi
    rw [if_pos rfl]
    simp [qo]
  · rw [if_neg hi]
    simp only [qo,List.getElem_map,List.getElem_range]
    by_cases hk : i < k
    · rw [if_pos hk,if_pos (by omega)]
    · rw [if_neg hk,if_neg (by omega)]
/-! ### the search -/
theorem aa2 {l : List Int} {c : Nat} (h : c < l.length) : il.f l (c : Int) = some (l.getD c 0 != 0):=by
  unfold il.f
  rw [if_pos (by omega),if_pos (by omega),kW]
theorem aa3 (M : Nat → List Int) (c m : Nat) (hm : m ≤ 1000) (hl : ∀ j,j < m → c < (M (c + j)).length) (d : Nat) : ∀ i,i + d = m →
    bP.l0 (d + 1) (rV M c m) (fun z=>il.f z (c : Int)) (m : Int) (i : Int) = some (if pivot M c d (c + i) = c + m then -1 else ((pivot M c d (c + i) - c : Nat) : Int)):=by
  induction d with
  | zero =>
    intro i hi
    rw [bP.l0,if_neg (by omega),pivot,if_pos (by omega)]
  | succ d ih =>
    intro i hi
    rw [bP.l0,if_pos (by omega),if_pos (by omega),if_pos (by rw [qX];omega),vK,Dk _ _ (by omega),aa2 (hl i (by omega)),Option.bind_some,pivot]
    by_cases h0 : (M (c + i)).getD c 0 = 0
    · rw [if_neg (by simp only [h0];decide),if_pos h0,kS (n:=1001) (by omega) (by omega)]
      exact ih (i + 1) (by omega)
    · rw [if_pos (bne_iff_ne.2 h0),if_neg h0,if_neg (by omega),show c + i - c = i from by omega]
theorem WU (M : Nat → List Int) (c m : Nat) (hm : m ≤ 1000) (hl : ∀ j,j < m → c < (M (c + j)).length) :
    bP.f (m + 1) (rV M c m) (fun z=>il.f z (c : Int)) = some (if pivot M c m c = c + m then -1 else ((pivot M c m c - c : Nat) : Int)):=by
  unfold bP.f
  rw [qX]
  exact aa3 M c m hm hl m 0 (by omega)
/-! ### the callees -/
theorem ED {p : Int} (hp : Pm p) (x : Int) (w : World) : Calls Try.prog 72 #[.int .i64 p,.int .i64 x] w fun e w'=>e = .returned (.int .i64 (x % p))∧bA w w' :=
  fq.calls p x _ w (zl hp x)
theorem Pv {p : Int} (hp : Pm p) {x y : Int} (h : x % p = y) (w : World) : Calls Try.prog 72 #[.int .i64 p,.int .i64 x] w fun e w'=>e = .returned (.int .i64 y)∧bA w w' :=
  h ▸ ED hp x w
theorem Ue {p : Int} (hp : Pm p) {x y : Int} (hx : 0 ≤ x∧x < p) (hy : 0 ≤ y∧y < p) (w : World) : Calls Try.prog 103 #[.int .i64 p,.int .i64 x,.int .i64 y] w fun e w'=>e = .returned (.int .i64 (x * y % p))∧bA w w' :=
  jm.calls p x y _ w (Dg hp hx hy)
theorem Uf {p : Int} (hp : Pm p) {x y : Int} (hx : 0 ≤ x∧x < p) (hy : 0 ≤ y∧y < p) (w : World) : Calls Try.prog 88 #[.int .i64 p,.int .i64 x,.int .i64 y] w fun e w'=>e = .returned (.int .i64 (x * wT p y % p))∧bA w w':=by
  obtain ⟨K,h⟩:=BM hp hx hy
  exact j5.calls K p x y _ w (h K (Nat.le_refl _))
theorem Pw {w : World} {b g n c gq : Nat} {β κ : Nat → Nat} {M : Nat → List Int} {v : Int} (h : Mx 24 2 w b g n n β κ M) (hn : n ≤ 1000) (hc : c < n) (hbox : w.heap[gq]? = some (.cells #[.int .i64 (c : Int)] 3 (0,0)))
    (hv : v = if pivot M c (n - c) c = n then -1 else ((pivot M c (n - c) c - c : Nat) : Int)) :
    Calls Try.prog 110 #[.slice (some (cutAt g n c)) (n - c) (n - c),.func (.func 117) #[] #[.pointer (some ⟨gq,0,none⟩)]] w fun e w'=>e = .returned (.int .i64 v)∧Below w.heap.size w w':=by
  have hl : ∀ j,j < n - c → c < (M (c + j)).length:=fun j hj=>by rw [h.len (c + j) (by omega)];exact hc
  have hf:=WU M c (n - c) (by omega) hl
  rw [show c + (n - c) = n from by omega,← hv] at hf
  have hC:=h.C hn (Nat.le_of_lt hc)
  have hlen:=qX M c (n - c)
  refine dR (args':=#[.slice (some (cutAt g n c)) (rV M c (n - c)).length (n - c),.func (.func 117) #[] #[.pointer (some ⟨gq,0,none⟩)]]) (by rw [hlen]) ?_
  refine bP.calls (n - c + 1) _ _ (rV M c (n - c)) _ (fun z=>il.f z (c : Int)) v w hC (by rw [hlen];exact Nat.le_refl _) ?_ hf
  refine FnL.of Try.func117 (by kernel_rfl) rfl (fun z r A c0 hr W hW hCz hc0=>dR (args':=#[.slice A z.length c0,.pointer (some ⟨gq,0,none⟩)]) (by simp) ?_)
  refine (il.calls A c0 z gq (c : Int) r W hCz hc0 (dD hbox hW) hr).mono ?_
  rintro e w' ⟨rfl,⟨nd,rfl⟩⟩
  exact ⟨rfl,bD (Below.refl _ _) _⟩
theorem Px {p : Int} (hp : Pm p) {x y z : Int} (hx : 0 ≤ x∧x < p) (hy : 0 ≤ y∧y < p) (h : x * y % p = z) (w : World) : Calls Try.prog 103 #[.int .i64 p,.int .i64 x,.int .i64 y] w fun e w'=>e = .returned (.int .i64 z)∧bA w w' :=
  h ▸ Ue hp hx hy w
theorem Py {p : Int} (hp : Pm p) {x y z : Int} (hx : 0 ≤ x∧x < p) (hy : 0 ≤ y∧y < p) (h : x * wT p y % p = z) (w : World) : Calls Try.prog 88 #[.int .i64 p,.int .i64 x,.int .i64 y] w fun e w'=>e = .returned (.int .i64 z)∧bA w w' :=
  h ▸ Uf hp hx hy w
theorem M6 {l : List Int} {n c : Nat} {A : Option Addr} {w : World} (hl : l.length = n) (h0 : 0 < n) (hn : n ≤ 1000) (hC : Kd.C (Kd.int .i64) w A n l) (hc : n ≤ c) :
    Calls Try.prog 78 #[.slice A n c] w fun e w'=>∃ q c' cur,e = .returned (.slice (some ⟨q,0,none⟩) n c')∧w.heap.size ≤ q∧n ≤ c'∧w'.heap[q]? = some (.cells cur 2 (0,0))∧(∀ k,k < n → cur[k]? = some (.int .i64 (l.getD k 0)))∧Below w.heap.size w w':=by
  subst hl
  refine (oz.calls A c l l w hC hc (by unfold oz.f;rw [if_pos (by omega)])).mono ?_
  rintro e w' ⟨v,rfl,hR,hb⟩
  obtain ⟨q,c',cur,rfl,h1,h2,h3,h4⟩:=Hu hR h0
  exact ⟨q,c',cur,rfl,h1,h2,h3,h4,hb⟩
/- The program's determinant: for square rows of numbers modulo p it computes Pq. -/
set_option linter.unusedVariables false
set_option linter.unusedSimpArgs false
def aK.f (_k : Nat) (a0 : Int) (l1 : List (List Int)) : Option Int:=if Ps a0 l1 then some (Pq a0 l1) else none
def aK.T15 : Bool × List (List Nat × List Nat):=(true,[([],[]),([],[]),([],[]),([],[]),([],[]),([3,4],[3,4]),([],[]),([],[]),([],[]),([7,8],[7,8]),([6,9],[6,9]),([10],[10]),([],[]),([],[]),([12,13],[12,13]),([14],[14]),([0,1,0,1,6,7,8,9,10,11,15],[0,1]),([16,11,0,1,6,7,8,9,10,11,15],[11,16]),([2,5,0,1,2,3,4,5,6,7,8,9,10,11,12,13,14,15,16,17],[2,5]),([18,15,17,0,1,2,3,4,5,6,7,8,9,10,11,12,13,14,15,16,17],[15,18])])
def aK.B15 : List Nat:=[0,0,0,0,0,24,0,0,0,384,960,1984,0,0,12288,28672,65475,131011,262143,524287]
theorem aK.akz : mf .any (opsOf Try.f112 15) = aK.T15:=by kernel_rfl
theorem aK.afF : jP aK.T15.2 aK.B15 = true:=by kernel_rfl
def aK.T17 : Bool × List (List Nat × List Nat):=(true,[([],[]),([],[]),([],[]),([],[]),([2,3],[2,3]),([4],[4]),([],[]),([5,6],[5,6]),([7],[7]),([0,1,8],[0,1,8]),([9,9,0,1,2,3,4,5,6,7,8,9],[1,9])])
def aK.B17 : List Nat:=[0,0,0,0,12,28,0,124,252,511,1023]
theorem aK.akA : mf .any (opsOf Try.f112 17) = aK.T17:=by kernel_rfl
theorem aK.afG : jP aK.T17.2 aK.B17 = true:=by kernel_rfl
def aK.T21 : Bool × List (List Nat × List Nat):=(true,[([],[]),([],[]),([],[]),([1,2],[1,2]),([3],[3]),([],[]),([],[]),([5,6],[5,6]),([7],[7]),([],[]),([8,9],[8,9]),([10],[10]),([0,4,11],[0,4,11]),([12,12,0,1,2,3,4,5,6,7,8,9,10,11,12],[12])])
def aK.B21 : List Nat:=[0,0,0,6,14,0,0,96,224,0,992,2016,4095,8191]
theorem aK.akB : mf .any (opsOf Try.f112 21) = aK.T21:=by kernel_rfl
theorem aK.afH : jP aK.T21.2 aK.B21 = true:=by kernel_rfl
def aK.T25 : Bool × List (List Nat × List Nat):=(true,[([],[]),([],[]),([],[]),([],[]),([],[]),([3,4],[3,4]),([5],[5]),([],[]),([],[]),([],[]),([8,9],[8,9]),([10],[10]),([],[]),([11,12],[11,12]),([13],[13]),([7,14],[7,14]),([6,15],[6,15]),([2,16],[2,16]),([0,1,0,1,2,3,4,5,6,7,8,9,10,11,12,13,14,15,16,17],[0,1]),([18,17,17,0,1,2,3,4,5,6,7,8,9,10,11,12,13,14,15,16,17],[17,18])])
def aK.B25 : List Nat:=[0,0,0,0,0,24,56,0,0,0,768,1792,0,7936,16128,32640,65528,131068,262143,524287]
theorem aK.akC : mf .any (opsOf Try.f112 25) = aK.T25:=by kernel_rfl
theorem aK.afI : jP aK.T25.2 aK.B25 = true:=by kernel_rfl

set_option maxHeartbeats 8000000 in
set_option maxRecDepth 100000 in
theorem aK.calls (k : Nat) (a0 : Int) (A1 : Option Addr) (c1 : Nat) (l1 : List (List Int)) (r : Int) (w : World) (hr1 : Kd.C (Kd.slice 2 (Kd.int .i64)) w A1 l1.length l1) (hc1 : l1.length ≤ c1) (h : aK.f k a0 l1 = some r) :
    Calls Try.prog 112 #[.int .i64 a0,.slice A1 l1.length c1] w fun e w'=>e = .returned (.int .i64 r)∧Below w.heap.size w w':=by
  unfold aK.f at h
  split at h
  case isFalse=>cases h
  rename_i c2
  have HD:=aa.mk (Option.some.inj h)
  clear h
  obtain ⟨⟨hp2,hpt⟩,hn,hrows⟩:=c2
  have HP:=aa.mk (Pm.mk hp2 hpt)
  have HN:=aa.mk hn
  have HROWS:=aa.mk hrows
  have HR1:=aa.mk hr1
  clear hp2 hpt hn hrows hr1 hc1
  have HB:=aa.mk (Below.refl w.heap.size w)
  have hmk : Try.prog.underlying 65 = some (.slice 24):=Try.underlying65
  have HMK:=aa.mk hmk
  clear hmk
  go_enter Try.func112,Try.ntmps112
  go_wp2_with (first | ((with_reducible refine aT (N:=17) rfl ?_);refine aa1 (e:=24) (e':=2) 17 l1.length HMK.out (by kernel_rfl) HN.out (fun _=>0) (fun _=>0) (fun i=>l1.getD i []) ?_;intro gb hg w3 HM0 hb;have HM:=aa.mk HM0;clear HM0;have HB:=aa.mk hb;clear hb hg))
  go_loopg [20] (l1.length + 1) (fun kq v20 w'=>∃ (i : Nat) (β κ : Nat → Nat),v20 = .int .i64 (i : Int)∧aa (kq + i = l1.length + 1∧i ≤ l1.length)∧aa (Mx 24 2 w' w.heap.size gb l1.length i β κ (fun i=>l1.getD i []))∧aa (Below w.heap.size w w'))
  case atStart=>exact ⟨0,_,_,rfl,⟨by omega,by omega⟩,⟨HM.out.below (by repeat (first | exact Below.refl _ _ | apply aZ | apply bD))⟩,⟨uH HB.out⟩⟩
  case round =>
    clear HM HB
    obtain ⟨i,β,κ,rfl,HI,HM,HB⟩:=hrel
    by_cases ci : i < l1.length
    · have c1 : decide ((i : Int) < (l1.length : Int)) = true:=decide_eq_true (by omega)
      have CI:=aa.mk ci
      clear ci
      obtain ⟨ad,A0,c0,eA,hx,hl,hi⟩:=Ao HR1.out (i : Int) (by omega) (by have:=CI.out;omega)
      cases eA
      replace hx:=(HB.out.cell (World.block_lt_of_cell? w _ hx)).trans hx
      rw [jZ] at hx
      have hli : (gW l1 (i : Int)).length = l1.length:=by rw [vK];exact (HROWS.out _ (xK CI.out)).1
      rw [hli] at hx hl hi
      have HLI:=aa.mk hli
      have HRI:=aa.mk hi
      have HCI:=aa.mk hl
      clear hi hl hli
      have q1 : (0 ≤ (i : Int)) = True:=eq_true (by omega)
      have q2 : ((i : Int) < (l1.length : Int)) = True:=eq_true (by have:=CI.out;omega)
      go_wp2_with (first | ((with_reducible refine ag (f:=78) rfl ?_);refine gL (some 28) Try.func78 #[.slice A0 l1.length c0] ?_;with_reducible refine (M6 HLI.out ?s0 HN.out ?sC HCI.out).mono ?_;(case s0=>have:=CI.out;omega);(case sC=>exact uC (Kd.aW HRI.out HB.out));rintro e w4 ⟨q,c',cur,rfl,hq,hcc,hqb,hqr,hb⟩;refine ⟨_,rfl,?_⟩;have HM1:=aa.mk (HM.out.below hb);have HNE:=aa.mk (fun j (hj : j < i)=>Nat.ne_of_lt (Nat.lt_of_lt_of_le (HM.out.lt hj) hq));have HQ:=aa.mk hqb;have HQR:=aa.mk hqr;have HQL:=aa.mk (Nat.le_trans (af HB.out) hq);have HCC:=aa.mk hcc;have HB1:=xH HB hb;clear HM HB hq hqb hqr hb hcc;have hs:=HM1.out.afE (Nat.le_refl i) CI.out;have hf:=HM1.out.Dj i))
      go_roundg (l1.length - i)
      case measure=>have:=HI.out;have:=CI.out;omega
      case rel =>
        have HMM:=HM1.out.more (by decide) CI.out HQ.out HQL.out HCC.out (gW l1 (i : Int)) HLI.out HQR.out (fun j hj=>HNE.out j hj)
        have eM : (fun j=>if j = i then gW l1 (i : Int) else l1.getD j []) = fun j=>l1.getD j []:=funext fun j=>by
          by_cases hj : j = i
          · rw [if_pos hj,hj,vK]
          · rw [if_neg hj]
        rw [eM] at HMM
        have:=CI.out
        have:=HI.out
        have:=HN.out
        exact ⟨i + 1,_,_,by rw [kS (n:=1001) (by omega) (by omega)],⟨by omega,by omega⟩,⟨HMM⟩,⟨lC HB1.out (Nat.le_trans HMM.bg (Nat.le_refl _))⟩⟩
    · obtain rfl : i = l1.length:=by have:=HI.out;omega
      have c1 : decide ((l1.length : Int) < (l1.length : Int)) = false:=decide_eq_false (by omega)
      clear ci HI
      go_wp2_with (first | ((with_reducible refine ag (f:=72) rfl ?_);refine gL (some 32) Try.func72 #[.int .i64 a0,.int .i64 1] ?_;refine (ED HP.out 1 _).mono ?_;rintro e w' ⟨rfl,⟨nd,rfl⟩⟩;refine ⟨_,rfl,?_⟩))
      go_loopg [8,35] (l1.length + 1) (fun kq v8 v35 w'=>∃ (c : Nat) (o : Int) (β κ : Nat → Nat) (M : Nat → List Int),v8 = .int .i64 o∧v35 = .int .i64 (c : Int)∧aa (kq + c = l1.length + 1∧c ≤ l1.length)∧aa ((0 ≤ o∧o < a0)∧∀ i,i < l1.length → Nm a0 (M i))∧aa (zJ a0 l1.length (l1.length - c) c M o = r)∧aa (Mx 24 2 w' w.heap.size gb l1.length l1.length β κ M)∧aa (Below w.heap.size w w'))
      case atStart =>
        have h1 : (1 : Int) % a0 = 1:=Int.emod_eq_of_lt (by omega) (by have:=HP.out.two;omega)
        exact ⟨0,1,β,κ,_,by rw [h1],rfl,⟨by omega,by omega⟩,⟨⟨by omega,by have:=HP.out.two;omega⟩,fun i hi=>(HROWS.out _ (xK hi)).2⟩,HD,⟨HM.out.below (by repeat (first | exact Below.refl _ _ | apply aZ | apply bD))⟩,⟨uH HB.out⟩⟩
      case round =>
        clear HM HB β κ HD
        obtain ⟨c,o,β,κ,M,rfl,rfl,HC,HO,HG,HM,HB⟩:=hrel
        by_cases cc : c < l1.length
        · have c1 : decide ((c : Int) < (l1.length : Int)) = true:=decide_eq_true (by omega)
          have CC:=aa.mk cc
          clear cc
          obtain ⟨v,hv⟩ : ∃ v : Int,v = if pivot M c (l1.length - c) c = l1.length then -1 else ((pivot M c (l1.length - c) c - c : Nat) : Int):=⟨_,rfl⟩
          have HV:=aa.mk hv
          clear hv
          have hcut:=Rt (P:=Try.prog) HMK.out (by kernel_rfl) gb l1.length c (Nat.le_of_lt CC.out)
          have hmf : ∀ (fn_ : Fn) (first_ cap_ : Array Value) (w_ : World),(Instr.makeFunc fn_ first_ cap_).run Try.prog w_ = .ok (.func fn_ first_ cap_) w_:=fun _ _ _ _=>rfl
          have cc:=CC.out
          go_upto_region 12 with (first | ((with_reducible refine aT (N:=9) rfl ?_);refine bx 9 #[.int .i64 0] 3 ?_;intro gq hq w5 hbox hb;have n0_:=aa.mk (HM.out.below hb);have n1_:=xH HB hb;have BK:=aa.mk hbox;have GE : aa (w.heap.size ≤ gq):=⟨by rw [hq];exact af (uH HB.out)⟩;clear HM HB hbox hb hq;have HM:=n0_;have HB:=n1_;clear n0_ n1_;have hcz : w5.cell? ⟨gq,0,none⟩ = some (.int .i64 0):=(dH BK.out 0).trans rfl;have hfz:=kH BK.out 0) | ((with_reducible refine qB (t:=3) (p:=9) rfl ?_);refine pq (t:=3) (p:=9) (v:=?vo) (w1:=(w5.setCell ⟨gq,0,none⟩ (.int .i64 (c : Int)))) ?hg ?ho ?hn ?hr ?_;(case ho=>rfl);(case hg=>rfl);(case hn=>rfl);(case hr=>first | (go_simp;done) | (go_simp;rfl));intro w6 hw;clear hcz hfz;have hne:=HM.out.Pt BK.out (by decide) (by decide);have n0_:=aa.mk (HM.out.far hne.1 hne.2 0 (.int .i64 (c : Int)));have n1_:=aa.mk (lC (j:=0) (v:=.int .i64 (c : Int)) HB.out GE.out);have n2_:=aa.mk (bV (cs':=#[.int .i64 (c : Int)]) BK.out 0 (.int .i64 (c : Int)) rfl);rw [← hw] at n0_ n1_ n2_;clear HM HB BK hne hw;have HM:=n0_;have HB:=n1_;have BK:=n2_;clear n0_ n1_ n2_;have hcz : w6.cell? ⟨gq,0,none⟩ = some (.int .i64 (c : Int)):=(dH BK.out 0).trans rfl) | ((with_reducible refine ag (f:=110) rfl ?_);refine gL (some 42) Try.func110 #[.slice (some (cutAt gb l1.length c)) (l1.length - c) (l1.length - c),.func (.func 117) #[] #[.pointer (some ⟨gq,0,none⟩)]] ?_;with_reducible refine (Pw HM.out HN.out CC.out BK.out HV.out).mono ?_;rintro e w7 ⟨rfl,hb⟩;refine ⟨_,rfl,?_⟩;have n0_:=aa.mk (HM.out.below hb);have n1_:=xH HB hb;have n2_:=xB BK hb;clear HM HB BK hb hcz;have HM:=n0_;have HB:=n1_;have BK:=n2_;clear n0_ n1_ n2_))
          all_goals clear hcut hmf cc
          by_cases hP : pivot M c (l1.length - c) c = l1.length
          · have hv : v = -1:=by rw [HV.out,if_pos hP]
            have e : (0 : Int) = r:=by
              have h:=HG.out
              rw [show l1.length - c = (l1.length - c - 1) + 1 from by have:=CC.out;omega,zJ,if_pos hP] at h
              exact h
            subst e
            clear HV
            subst hv
            have hd : decide ((-1 : Int) < 0) = true:=rfl
            go_wp2
            go_ret
            exact ⟨rfl,uH HB.out⟩
          · have hPc:=WT M c (l1.length - c) c
            have hv : v = ((pivot M c (l1.length - c) c - c : Nat) : Int):=by rw [HV.out,if_neg hP]
            have hG : zJ a0 l1.length (l1.length - (c + 1)) (c + 1) (Di a0 (wT a0 ((M (pivot M c (l1.length - c) c)).getD c 0)) l1.length c (rz M c (pivot M c (l1.length - c) c)))
                ((if pivot M c (l1.length - c) c = c then o else (-o) % a0) * (M (pivot M c (l1.length - c) c)).getD c 0 % a0) = r:=by
              have h:=HG.out
              rw [show l1.length - c = (l1.length - c - 1) + 1 from by have:=CC.out;omega,zJ,if_neg hP] at h
              rw [show l1.length - (c + 1) = l1.length - c - 1 from by omega]
              exact h
            clear HG HV
            generalize pivot M c (l1.length - c) c = P at hP hPc hv hG
            have HG:=aa.mk hG
            have HPI:=aa.mk (show c ≤ P∧P < l1.length from by have:=CC.out;omega)
            have HVE:=aa.mk hv
            have hv0 : 0 ≤ v:=by omega
            have hv1 : ¬ v < 0:=by omega
            clear hG hPc hP hv
            go_upto_if 46 with (fail)
            all_goals clear hv0 hv1
            go_cut [8] (fun v8 wc=>∃ β κ : Nat → Nat,v8 = .int .i64 (if P = c then o else (-o) % a0)∧aa (Mx 24 2 wc w.heap.size gb l1.length l1.length β κ (rz M c P))∧aa (wc.heap[gq]? = some (.cells #[.int .i64 (c : Int)] 3 (0,0)))∧aa (Below w.heap.size w wc))
            case first =>
              by_cases hpc : P = c
              · have hv : v = 0:=by have:=HVE.out;omega
                clear HVE
                subst hv
                have hd : decide ((0 : Int) > 0) = false:=rfl
                have hd2 : decide ((0 : Int) < 0) = false:=rfl
                go_wp2
                go_meet
                case rel =>
                  have e : rz M c P = M:=funext fun i=>by
                    unfold rz
                    by_cases hi : i = c
                    · rw [if_pos hi,hpc,hi]
                    · rw [if_neg hi,if_neg (by rw [hpc];exact hi)]
                  exact ⟨β,κ,by rw [if_pos hpc],⟨by rw [e];exact HM.out.below (by repeat (first | exact Below.refl _ _ | apply aZ | apply bD))⟩,⟨uB BK.out⟩,⟨uH HB.out⟩⟩
              · have hlt : c < P:=by have:=HPI.out;omega
                have hd : decide (v > 0) = true:=decide_eq_true (by have:=HVE.out;omega)
                have hd2 : decide (0 < v) = true:=hd
                have hd3 : 0 < v:=of_decide_eq_true hd
                go_wp2
                have hadd : IntKind.i64.wrap ((c : Int) + v) = (P : Int):=by rw [jW,HVE.out];have:=HPI.out;have:=HN.out;rw [df (by omega) (by omega)];omega
                have q0 : (0 ≤ (c : Int)) = True:=eq_true (by omega)
                have q1 : ((c : Int) < (l1.length : Int)) = True:=eq_true (by have:=CC.out;omega)
                have q2 : (0 ≤ (P : Int)) = True:=eq_true (by omega)
                have q3 : ((P : Int) < (l1.length : Int)) = True:=eq_true (by have:=HPI.out;omega)
                refine kF (n:=20) (S:=fun w'=>w'.cell? ⟨gq,0,none⟩ = some (.int .i64 (c : Int))) (ds:=[19]) (bl 20 0) (by kernel_rfl) rfl (by kernel_rfl) ((dH BK.out 0).trans rfl) (fun hHeld=>?_)
                refine gX aK.akz aK.afF (fun HT_ HW_=>?_)
                have n0_:=aa.mk (HM.out.below (aZ (Below.refl _ _)))
                have n1_:=aa.mk (aZ HB.out)
                have n2_:=aa.mk (eD BK.out)
                clear HM HB BK
                have HM:=n0_;have HB:=n1_;have BK:=n2_
                clear n0_ n1_ n2_
                generalize w7.drew = w8 at HM HB BK hHeld ⊢
                have hne:=HM.out.Pt BK.out (by decide) (by decide)
                have hcc:=HM.out.outer CC.out
                have hcp:=HM.out.outer HPI.out.2
                have hfc:=HM.out.Dj c
                have hsw : (w8.setCell ⟨gb,c,none⟩ (.slice (some ⟨β P,0,none⟩) l1.length (κ P))).cell? ⟨gb,P,none⟩ = some (.slice (some ⟨β P,0,none⟩) l1.length (κ P)):=by
                  rw [dH (ug HM.out.out c _) P,Array.getElem?_setIfInBounds_ne (by omega),← dH HM.out.out P];exact hcp
                have hswf:=kH (ug HM.out.out c (.slice (some ⟨β P,0,none⟩) l1.length (κ P))) P
                refine pu_ 0 47 (bl 20 1) HT_ ?_
                refine pu_ 2 49 (bl 20 5) HT_ ?_
                refine pu_ 4 51 (bl 20 21) HT_ ?_
                refine pu_ 6 53 (bl 20 85) HT_ ?_
                refine pu_ 8 55 (bl 20 341) HT_ ?_
                refine pu_ 12 59 (bl 20 4437) HT_ ?_
                refine ta_ 1 48 (bl 20 4439) HT_ HW_ hHeld ?_
                refine ta_ 3 50 (bl 20 4447) HT_ HW_ hHeld ?_
                refine pu_ 5 52 (bl 20 4479) HT_ ?_
                refine ta_ 7 54 (bl 20 4607) HT_ HW_ hHeld ?_
                refine pu_ 9 56 (bl 20 5119) HT_ ?_
                refine pu_ 10 57 (bl 20 6143) HT_ ?_
                refine ta_ 13 60 (bl 20 14335) HT_ HW_ hHeld ?_
                refine pu_ 14 61 (bl 20 30719) HT_ ?_
                refine atw 11 15 58 62 (bl 20 32767) (bl 20 63487) (bl 20 65535) HT_ hHeld ?_
                refine pu_ 16 63 (bl 20 131071) HT_ ?_
                refine on_ 17 none (bl 20 262143) HT_ (fun K hK=>?_)
                refine uL (w1:=w8.setCell ⟨gb,c,none⟩ (.slice (some ⟨β P,0,none⟩) l1.length (κ P))) (by rfl) rfl (by first | (go_simp;done) | (go_simp;rfl)) ?_
                have hbx : (w8.setCell ⟨gb,c,none⟩ (.slice (some ⟨β P,0,none⟩) l1.length (κ P))).cell? ⟨gq,0,none⟩ = some (.int .i64 (c : Int)):=(dH (dG BK.out hne.1 _) 0).trans rfl
                refine hK.out _ _ hbx (fun hHeld=>?_)
                clear hK K
                refine pu_ 18 64 (bl 20 524287) HT_ ?_
                refine Bt (i:=19) (N:=none) (bl 20 1048575) rfl rfl (wF HT_.out (by kernel_rfl)) (by decide) (fun K hK=>?_)
                have hsP : (w8.setCell ⟨gb,c,none⟩ (.slice (some ⟨β P,0,none⟩) l1.length (κ P))).cell? ⟨gb,P,none⟩ = some (.slice (some ⟨β P,0,none⟩) l1.length (κ P)):=hsw
                have hsF : (w8.setCell ⟨gb,c,none⟩ (.slice (some ⟨β P,0,none⟩) l1.length (κ P))).frozen? ⟨gb,P,none⟩ = false:=hswf
                refine uL (w1:=(w8.setCell ⟨gb,c,none⟩ (.slice (some ⟨β P,0,none⟩) l1.length (κ P))).setCell ⟨gb,P,none⟩ (.slice (some ⟨β c,0,none⟩) l1.length (κ c))) (by rfl) rfl (by first | (go_simp;done) | (go_simp;rfl)) ?_
                refine hK.out _ _ ?_
                clear hK K
                refine done_ (done_of HT_.out (by kernel_rfl)) ?_
                have HM9:=HM.out.swap (by decide) CC.out HPI.out.2
                have eM : (fun i=>if i = P then M c else if i = c then M P else M i) = rz M c P:=funext fun i=>by
                  unfold rz
                  by_cases hi : i = c
                  · rw [if_pos hi,if_neg (by omega),if_pos hi]
                  · rw [if_neg hi,if_neg hi]
                rw [eM] at HM9
                have n0_:=aa.mk HM9
                have n1_:=aa.mk (lC (j:=P) (v:=.slice (some ⟨β c,0,none⟩) l1.length (κ c)) (lC (j:=c) (v:=.slice (some ⟨β P,0,none⟩) l1.length (κ P)) HB.out HM.out.bg) HM.out.bg)
                have n2_:=aa.mk (dG (p:=⟨gb,P,none⟩) (dG (p:=⟨gb,c,none⟩) BK.out hne.1 (.slice (some ⟨β P,0,none⟩) l1.length (κ P))) hne.1 (.slice (some ⟨β c,0,none⟩) l1.length (κ c)))
                clear HM9 eM HM HB BK hHeld hbx hsP hsF hsw hswf hcc hcp hfc hne
                have HM:=n0_;have HB:=n1_;have BK:=n2_
                clear n0_ n1_ n2_
                generalize (w8.setCell ⟨gb,c,none⟩ (.slice (some ⟨β P,0,none⟩) l1.length (κ P))).setCell ⟨gb,P,none⟩ (.slice (some ⟨β c,0,none⟩) l1.length (κ c)) = w9 at HM HB BK ⊢
                clear hadd q0 q1 q2 q3 hd hd2 hd3
                go_wp2_with (first | ((with_reducible refine ag (f:=72) rfl ?_);refine gL (some 68) Try.func72 #[.int .i64 a0,.int .i64 (wrap64 (-o))] ?_;refine (ED HP.out (wrap64 (-o)) _).mono ?_;rintro e w' ⟨rfl,⟨nd,rfl⟩⟩;refine ⟨_,rfl,?_⟩))
                go_meet
                case rel =>
                  have ew : wrap64 (-o) = -o:=by have:=HO.out;have:=HP.out.top;rw [df (by omega) (by omega)]
                  exact ⟨_,_,by rw [if_neg hpc,ew],⟨HM.out.below (by repeat (first | exact Below.refl _ _ | apply aZ | apply bD))⟩,⟨uB BK.out⟩,⟨uH HB.out⟩⟩
            case rest =>
              obtain ⟨β1,κ1,rfl,HM,BK,HB⟩:=hcut
              have hMc : rz M c P c = M P:=by unfold rz;rw [if_pos rfl]
              have hNm : ∀ i,i < l1.length → Nm a0 (rz M c P i):=fun i hi=>by
                unfold rz
                by_cases h1 : i = c
                · rw [if_pos h1];exact HO.out.2 _ HPI.out.2
                · by_cases h2 : i = P
                  · rw [if_neg h1,if_pos h2];exact HO.out.2 _ CC.out
                  · rw [if_neg h1,if_neg h2];exact HO.out.2 _ hi
              have hoB : 0 ≤ (if P = c then o else (-o) % a0)∧(if P = c then o else (-o) % a0) < a0:=by
                by_cases h1 : P = c
                · rw [if_pos h1];exact HO.out.1
                · rw [if_neg h1];exact mi HP.out.pos _
              have hG:=HG.out
              rw [← hMc] at hG
              clear HG hMc HO
              generalize rz M c P = M1 at HM hNm hG
              generalize (if P = c then o else (-o) % a0) = o1 at hoB hG ⊢
              obtain ⟨y0,hy0⟩ : ∃ y0,(M1 c).getD c 0 = y0:=⟨_,rfl⟩
              obtain ⟨o2,ho2⟩ : ∃ o2,o1 * y0 % a0 = o2:=⟨_,rfl⟩
              have KM:=(hNm c CC.out).C8 HP.out.pos c
              rw [hy0] at KM
              have HY0:=aa.mk hy0
              have akD:=aa.mk KM
              have HO2:=aa.mk ho2
              have afJ : aa (0 ≤ o2∧o2 < a0):=⟨by rw [← ho2];exact mi HP.out.pos _⟩
              rw [hy0,ho2] at hG
              clear hy0 KM ho2
              have HNM:=aa.mk hNm
              have HOB:=aa.mk hoB
              have HG:=aa.mk hG
              clear hG hNm hoB HPI HVE
              go_wp2
              have q0 : (0 ≤ (c : Int)) = True:=eq_true (by omega)
              have q1 : ((c : Int) < (l1.length : Int)) = True:=eq_true (by have:=CC.out;omega)
              refine kF (n:=11) (S:=fun w'=>w'.cell? ⟨gq,0,none⟩ = some (.int .i64 (c : Int))∧w'.cell? ⟨gb,c,none⟩ = some (.slice (some ⟨β1 c,0,none⟩) l1.length (κ1 c))∧w'.cell? ⟨β1 c,c,none⟩ = some (.int .i64 y0)) (ds:=[]) (bl 11 0) (by kernel_rfl) rfl (by kernel_rfl) ⟨(dH BK.out 0).trans rfl,HM.out.outer CC.out,(HM.out.cell CC.out CC.out).trans (by rw [HY0.out])⟩ (fun hHeld=>?_)
              refine gX aK.akA aK.afG (fun HT_ HW_=>?_)
              have n0_:=aa.mk (HM.out.below (aZ (Below.refl _ _)))
              have n1_:=aa.mk (aZ HB.out)
              have n2_:=aa.mk (eD BK.out)
              clear HM HB BK
              have HM:=n0_;have HB:=n1_;have BK:=n2_
              clear n0_ n1_ n2_
              generalize wc.drew = w8 at HM HB BK hHeld ⊢
              refine pu_ 0 69 (bl 11 1) HT_ ?_
              refine pu_ 1 70 (bl 11 3) HT_ ?_
              refine pu_ 2 71 (bl 11 7) HT_ ?_
              refine ta_ 3 72 (bl 11 15) HT_ HW_ hHeld ?_
              refine pu_ 4 73 (bl 11 31) HT_ ?_
              refine ta_ 5 74 (bl 11 63) HT_ HW_ hHeld ?_
              refine ta_ 6 75 (bl 11 127) HT_ HW_ hHeld ?_
              refine pu_ 7 76 (bl 11 255) HT_ ?_
              refine ta_ 8 77 (bl 11 511) HT_ HW_ hHeld ?_
              refine on_ 9 (some 78) (bl 11 1023) HT_ (fun K hK=>?_)
              refine gS Try.func103 #[.int .i64 a0,.int .i64 o1,.int .i64 y0] ?_
              refine (Px HP.out HOB.out akD.out HO2.out _).mono ?_
              rintro e w' ⟨rfl,⟨nd,rfl⟩⟩
              refine ⟨_,rfl,?_⟩
              refine hK.out _ _ hHeld (fun hHeld=>?_)
              clear hK K
              refine no_ 78 ?_
              refine pu_ 10 8 (bl 11 2047) HT_ ?_
              refine done_ (done_of HT_.out (by kernel_rfl)) ?_
              have n0_:=aa.mk (HM.out.below (bD (Below.refl _ _) nd))
              have n1_:=aa.mk (bD HB.out nd)
              have n2_:=aa.mk (Eo BK.out nd)
              clear HM HB BK
              have HM:=n0_;have HB:=n1_;have BK:=n2_
              clear n0_ n1_ n2_ hHeld
              generalize w8.drewN nd = w9 at HM HB BK ⊢
              clear HOB HO2 q0 q1
              obtain ⟨c',hc'⟩ : ∃ c',c' = c + 1:=⟨_,rfl⟩
              obtain ⟨m,hm⟩ : ∃ m,l1.length - c' = m:=⟨_,rfl⟩
              have hadd : IntKind.i64.wrap ((c : Int) + 1) = (c' : Int):=by rw [jW,hc',kS CC.out (by have:=HN.out;omega)]
              have hcut:=Rt (P:=Try.prog) HMK.out (by kernel_rfl) gb l1.length c' (by have:=CC.out;omega)
              rw [hm] at hcut
              have HCE:=aa.mk hc'
              have HME:=aa.mk hm
              clear hc' hm
              have hcz : w9.cell? ⟨gq,0,none⟩ = some (.int .i64 (c : Int)):=(dH BK.out 0).trans rfl
              go_wp2
              obtain ⟨E,hE⟩ : ∃ E : Nat → List Int,E = fun i=>pI a0 ((M1 i).getD c 0 * wT a0 y0 % a0) (M1 i) (M1 c) l1.length:=⟨_,rfl⟩
              have HE:=aa.mk hE
              clear hE hcz hcut
              go_loopg [84] (m + 1) (fun kq v84 w'=>∃ j : Nat,v84 = .int .i64 (j : Int)∧aa (kq + j = m + 1∧j ≤ m)∧aa (Mx 24 2 w' w.heap.size gb l1.length l1.length β1 κ1 (fun t=>if c < t∧t < c' + j then E t else M1 t))∧aa (w'.heap[gq]? = some (.cells #[.int .i64 (c : Int)] 3 (0,0)))∧aa (Below w.heap.size w w'))
              case atStart =>
                refine ⟨0,rfl,⟨by omega,by omega⟩,⟨(HM.out.below (by repeat (first | exact Below.refl _ _ | apply aZ | apply bD))).congr fun t _=>?_⟩,⟨uB BK.out⟩,⟨uH HB.out⟩⟩
                rw [if_neg (by have:=HCE.out;omega)]
              case round =>
                clear HM HB BK hadd
                obtain ⟨j,rfl,HJ,HM,BK,HB⟩:=hrel
                by_cases cj : j < m
                · have c1 : decide ((j : Int) < (m : Int)) = true:=decide_eq_true (by omega)
                  have CJ:=aa.mk cj
                  clear cj
                  obtain ⟨i,hi⟩ : ∃ i,i = c' + j:=⟨_,rfl⟩
                  have HIE:=aa.mk hi
                  have HI:=aa.mk (show c < i∧i < l1.length from by have:=HCE.out;have:=HME.out;have:=CJ.out;omega)
                  have HN1:=aa.mk (show ¬ (c < i∧i < c' + j) from by omega)
                  have HN2:=aa.mk (show ¬ (c < c∧c < c' + j) from by omega)
                  clear hi
                  have hx : wr.cell? ((cutAt gb l1.length c').add j) = some (.slice (some ⟨β1 i,0,none⟩) l1.length (κ1 i)):=by
                    rw [Ud (by have:=HME.out;have:=CJ.out;omega),← HIE.out];exact HM.out.outer HI.out.2
                  have hri : wr.cell? ⟨β1 i,c,none⟩ = some (.int .i64 ((M1 i).getD c 0)):=by have h:=HM.out.cell HI.out.2 CC.out;simp only [if_neg HN1.out] at h;exact h
                  obtain ⟨x0,hx0⟩ : ∃ x0,(M1 i).getD c 0 = x0:=⟨_,rfl⟩
                  obtain ⟨f,hf⟩ : ∃ f,x0 * wT a0 y0 % a0 = f:=⟨_,rfl⟩
                  have afK:=(HNM.out i HI.out.2).C8 HP.out.pos c
                  rw [hx0] at hri afK
                  have HF : aa (E i = pI a0 f (M1 i) (M1 c) l1.length):=⟨by rw [HE.out,← hf,← hx0]⟩
                  have HFB : aa (0 ≤ f∧f < a0):=⟨by rw [← hf];exact mi HP.out.pos _⟩
                  have atx:=aa.mk afK
                  have HFE:=aa.mk hf
                  clear hx0 afK hf
                  have hrc : wr.cell? ⟨β1 c,c,none⟩ = some (.int .i64 y0):=by have h:=HM.out.cell CC.out CC.out;simp only [if_neg HN2.out] at h;rw [HY0.out] at h;exact h
                  have HRI:=aa.mk hri
                  have HRC:=aa.mk hrc
                  clear hri hrc
                  have qj0 : (0 ≤ (j : Int)) = True:=eq_true (by omega)
                  have qj1 : ((j : Int) < (m : Int)) = True:=eq_true (by have:=CJ.out;omega)
                  go_wp2
                  clear hx qj0 qj1
                  have q0 : (0 ≤ (c : Int)) = True:=eq_true (by omega)
                  have q1 : ((c : Int) < (l1.length : Int)) = True:=eq_true (by have:=CC.out;omega)
                  refine kF (n:=14) (S:=fun w'=>w'.cell? ⟨gq,0,none⟩ = some (.int .i64 (c : Int))∧w'.cell? ⟨gb,c,none⟩ = some (.slice (some ⟨β1 c,0,none⟩) l1.length (κ1 c))∧w'.cell? ⟨β1 c,c,none⟩ = some (.int .i64 y0)∧w'.cell? ⟨β1 i,c,none⟩ = some (.int .i64 x0)) (ds:=[]) (bl 14 0) (by kernel_rfl) rfl (by kernel_rfl) ⟨(dH BK.out 0).trans rfl,HM.out.outer CC.out,HRC.out,HRI.out⟩ (fun hHeld=>?_)
                  refine gX aK.akB aK.afH (fun HT_ HW_=>?_)
                  have n0_:=aa.mk (HM.out.below (aZ (Below.refl _ _)))
                  have n1_:=aa.mk (aZ HB.out)
                  have n2_:=aa.mk (eD BK.out)
                  clear HM HB BK
                  have HM:=n0_;have HB:=n1_;have BK:=n2_
                  clear n0_ n1_ n2_
                  clear HRI HRC
                  generalize wr.drew = w10 at HM HB BK hHeld ⊢
                  refine pu_ 0 88 (bl 14 1) HT_ ?_
                  refine pu_ 1 89 (bl 14 3) HT_ ?_
                  refine pu_ 5 93 (bl 14 35) HT_ ?_
                  refine ta_ 2 90 (bl 14 39) HT_ HW_ hHeld ?_
                  refine pu_ 3 91 (bl 14 47) HT_ ?_
                  refine ta_ 4 92 (bl 14 63) HT_ HW_ hHeld ?_
                  refine ta_ 6 94 (bl 14 127) HT_ HW_ hHeld ?_
                  refine pu_ 7 95 (bl 14 255) HT_ ?_
                  refine ta_ 8 96 (bl 14 511) HT_ HW_ hHeld ?_
                  refine ta_ 9 97 (bl 14 1023) HT_ HW_ hHeld ?_
                  refine pu_ 10 98 (bl 14 2047) HT_ ?_
                  refine ta_ 11 99 (bl 14 4095) HT_ HW_ hHeld ?_
                  refine on_ 12 (some 100) (bl 14 8191) HT_ (fun K hK=>?_)
                  refine gS Try.func88 #[.int .i64 a0,.int .i64 x0,.int .i64 y0] ?_
                  refine (Py HP.out atx.out akD.out HFE.out _).mono ?_
                  rintro e w' ⟨rfl,⟨nd,rfl⟩⟩
                  refine ⟨_,rfl,?_⟩
                  refine hK.out _ _ hHeld (fun hHeld=>?_)
                  clear hK K
                  refine no_ 100 ?_
                  refine pu_ 13 13 (bl 14 16383) HT_ ?_
                  refine done_ (done_of HT_.out (by kernel_rfl)) ?_
                  have n0_:=aa.mk (HM.out.below (bD (Below.refl _ _) nd))
                  have n1_:=aa.mk (bD HB.out nd)
                  have n2_:=aa.mk (Eo BK.out nd)
                  clear HM HB BK
                  have HM:=n0_;have HB:=n1_;have BK:=n2_
                  clear n0_ n1_ n2_
                  clear hHeld q0 q1
                  generalize w10.drewN nd = w11 at HM HB BK ⊢
                  go_wp2
                  go_loopg [103] (l1.length + 1) (fun kq aty w'=>∃ q : Nat,aty = .int .i64 (q : Int)∧aa (kq + q = l1.length + 1∧q ≤ l1.length)∧aa (Mx 24 2 w' w.heap.size gb l1.length l1.length β1 κ1 (fun t=>if t = i then qo a0 f (M1 i) (M1 c) l1.length q else if c < t∧t < c' + j then E t else M1 t))∧aa (w'.heap[gq]? = some (.cells #[.int .i64 (c : Int)] 3 (0,0)))∧aa (Below w.heap.size w w'))
                  case atStart =>
                    refine ⟨0,rfl,⟨by omega,by omega⟩,⟨(HM.out.below (by repeat (first | exact Below.refl _ _ | apply aZ | apply bD))).congr fun t ht=>?_⟩,⟨uB BK.out⟩,⟨uH HB.out⟩⟩
                    by_cases hti : t = i
                    · have hl:=HM.out.len i HI.out.2
                      simp only [if_neg HN1.out] at hl
                      rw [if_pos hti,KL a0 f (M1 c) hl,hti,if_neg HN1.out]
                    · rw [if_neg hti]
                  case round =>
                    clear HM HB BK
                    obtain ⟨q,rfl,HQ,HM,BK,HB⟩:=hrel
                    by_cases cq : q < l1.length
                    · have c1 : decide ((q : Int) < (l1.length : Int)) = true:=decide_eq_true (by omega)
                      have CQ:=aa.mk cq
                      clear cq
                      obtain ⟨x1,hx1⟩ : ∃ x1,(M1 i).getD q 0 = x1:=⟨_,rfl⟩
                      obtain ⟨y1,hy1⟩ : ∃ y1,(M1 c).getD q 0 = y1:=⟨_,rfl⟩
                      have HRI : aa (wr.cell? ⟨β1 i,q,none⟩ = some (.int .i64 x1)):=⟨by have h:=HM.out.cell HI.out.2 CQ.out;rw [← hx1];simp only [if_true,M3 _ _ _ _ CQ.out,Nat.lt_irrefl,if_false] at h;exact h⟩
                      have HRC : aa (wr.cell? ⟨β1 c,q,none⟩ = some (.int .i64 y1)):=⟨by have h:=HM.out.cell CC.out CQ.out;rw [← hy1];simp only [if_neg (show ¬ c = i from by have:=HI.out;omega),if_neg HN2.out] at h;exact h⟩
                      have Pz:=(HNM.out i HI.out.2).C8 HP.out.pos q
                      have PD:=(HNM.out c CC.out).C8 HP.out.pos q
                      rw [hx1] at Pz
                      rw [hy1] at PD
                      have HX1:=aa.mk hx1
                      have HY1:=aa.mk hy1
                      have atz:=aa.mk Pz
                      have atA:=aa.mk PD
                      clear hx1 hy1 Pz PD
                      have cq1:=CQ.out
                      go_wp2
                      clear cq1
                      have q0 : (0 ≤ (c : Int)) = True:=eq_true (by omega)
                      have q1 : ((c : Int) < (l1.length : Int)) = True:=eq_true (by have:=CC.out;omega)
                      have q2 : (0 ≤ (q : Int)) = True:=eq_true (by omega)
                      have q3 : ((q : Int) < (l1.length : Int)) = True:=eq_true (by have:=CQ.out;omega)
                      refine kF (n:=20) (S:=fun w'=>w'.cell? ⟨gq,0,none⟩ = some (.int .i64 (c : Int))∧w'.cell? ⟨gb,c,none⟩ = some (.slice (some ⟨β1 c,0,none⟩) l1.length (κ1 c))∧w'.cell? ⟨β1 c,q,none⟩ = some (.int .i64 y1)∧w'.cell? ⟨β1 i,q,none⟩ = some (.int .i64 x1)) (ds:=[19]) (bl 20 0) (by kernel_rfl) rfl (by kernel_rfl) ⟨(dH BK.out 0).trans rfl,HM.out.outer CC.out,HRC.out,HRI.out⟩ (fun hHeld=>?_)
                      refine gX aK.akC aK.afI (fun HT_ HW_=>?_)
                      have n0_:=aa.mk (HM.out.below (aZ (Below.refl _ _)))
                      have n1_:=aa.mk (aZ HB.out)
                      have n2_:=aa.mk (eD BK.out)
                      clear HM HB BK
                      have HM:=n0_;have HB:=n1_;have BK:=n2_
                      clear n0_ n1_ n2_
                      clear HRI HRC
                      generalize wr.drew = w12 at HM HB BK hHeld ⊢
                      refine pu_ 0 106 (bl 20 1) HT_ ?_
                      refine pu_ 1 107 (bl 20 3) HT_ ?_
                      refine pu_ 2 108 (bl 20 7) HT_ ?_
                      refine pu_ 3 109 (bl 20 15) HT_ ?_
                      refine pu_ 4 110 (bl 20 31) HT_ ?_
                      refine pu_ 5 111 (bl 20 63) HT_ ?_
                      refine pu_ 7 113 (bl 20 191) HT_ ?_
                      refine pu_ 8 114 (bl 20 447) HT_ ?_
                      refine pu_ 12 118 (bl 20 4543) HT_ ?_
                      refine ta_ 6 112 (bl 20 4607) HT_ HW_ hHeld ?_
                      refine ta_ 9 115 (bl 20 5119) HT_ HW_ hHeld ?_
                      refine pu_ 10 116 (bl 20 6143) HT_ ?_
                      refine ta_ 11 117 (bl 20 8191) HT_ HW_ hHeld ?_
                      refine pu_ 13 119 (bl 20 16383) HT_ ?_
                      refine ta_ 14 120 (bl 20 32767) HT_ HW_ hHeld ?_
                      refine pu_ 15 121 (bl 20 65535) HT_ ?_
                      refine pu_ 16 122 (bl 20 131071) HT_ ?_
                      refine on_ 17 (some 123) (bl 20 262143) HT_ (fun K hK=>?_)
                      refine gS Try.func72 #[.int .i64 a0,.int .i64 (wrap64 (x1 - wrap64 (f * y1)))] ?_
                      refine (Pv HP.out (y:=(x1 - f * y1) % a0) ?wv _).mono ?_
                      (case wv=>have h1:=atz.out;have h2:=atA.out;have h3:=BI HP.out HFB.out.1 HFB.out.2 h2.1 h2.2;have h4:=HP.out.top;rw [df (x:=f * y1) (by omega) (by omega),df (by omega) (by omega)])
                      rintro e w' ⟨rfl,⟨nd,rfl⟩⟩
                      refine ⟨_,rfl,?_⟩
                      refine hK.out _ _ hHeld (fun hHeld=>?_)
                      clear hK K
                      refine no_ 123 ?_
                      have n0_:=aa.mk (HM.out.below (bD (Below.refl _ _) nd))
                      have n1_:=aa.mk (bD HB.out nd)
                      have n2_:=aa.mk (Eo BK.out nd)
                      clear HM HB BK
                      have HM:=n0_;have HB:=n1_;have BK:=n2_
                      clear n0_ n1_ n2_
                      generalize w12.drewN nd = w13 at HM HB BK hHeld ⊢
                      refine pu_ 18 124 (bl 20 524287) HT_ ?_
                      refine Bt (i:=19) (N:=none) (bl 20 1048575) rfl rfl (wF HT_.out (by kernel_rfl)) (by decide) (fun K hK=>?_)
                      have hsr : w13.cell? ⟨β1 i,q,none⟩ = some (.int .i64 x1):=hHeld.2.2.2
                      have hsf : w13.frozen? ⟨β1 i,q,none⟩ = false:=HM.out.frozen HI.out.2 q
                      refine uL (w1:=w13.setCell ⟨β1 i,q,none⟩ (.int .i64 ((x1 - f * y1) % a0))) (by rfl) rfl (by first | (go_simp;done) | (go_simp;rfl)) ?_
                      refine hK.out _ _ ?_
                      clear hK K
                      refine done_ (done_of HT_.out (by kernel_rfl)) ?_
                      have hne:=HM.out.Pt BK.out (by decide) (by decide)
                      have n0_:=aa.mk ((HM.out.put (by decide) HI.out.2 CQ.out ((x1 - f * y1) % a0)).congr (M':=fun t=>if t = i then qo a0 f (M1 i) (M1 c) l1.length (q + 1) else if c < t∧t < c' + j then E t else M1 t) (fun t ht=>by
                        by_cases hti : t = i
                        · simp only [if_pos hti,if_true]
                          rw [← HX1.out,← HY1.out]
                          exact M5 a0 f (M1 i) (M1 c) l1.length q
                        · simp only [if_neg hti]))
                      have n1_:=aa.mk (lC (j:=q) (v:=.int .i64 ((x1 - f * y1) % a0)) HB.out (HM.out.bb i HI.out.2))
                      have n2_:=aa.mk (dG (p:=⟨β1 i,q,none⟩) BK.out (hne.2 i HI.out.2) (.int .i64 ((x1 - f * y1) % a0)))
                      clear HM HB BK hHeld hsr hsf hne q0 q1 q2 q3
                      have HM:=n0_;have HB:=n1_;have BK:=n2_
                      clear n0_ n1_ n2_
                      generalize w13.setCell ⟨β1 i,q,none⟩ (.int .i64 ((x1 - f * y1) % a0)) = w14 at HM HB BK ⊢
                      go_wp2
                      go_roundg (l1.length - q)
                      case measure=>have:=HQ.out;have:=CQ.out;omega
                      case rel=>exact ⟨q + 1,by rw [kS CQ.out (by have:=HN.out;omega)],⟨by have:=HQ.out;have:=CQ.out;omega,CQ.out⟩,⟨HM.out.below (by repeat (first | exact Below.refl _ _ | apply aZ | apply bD))⟩,⟨uB BK.out⟩,⟨uH HB.out⟩⟩
                    · obtain rfl : q = l1.length:=by have:=HQ.out;omega
                      have c1 : decide ((l1.length : Int) < (l1.length : Int)) = false:=decide_eq_false (by omega)
                      go_wp2
                      go_roundg (m - j)
                      case measure=>have:=HJ.out;have:=CJ.out;omega
                      case rel =>
                        refine ⟨j + 1,by rw [kS CJ.out (by have:=HN.out;have:=HME.out;omega)],⟨by have:=HJ.out;have:=CJ.out;omega,CJ.out⟩,⟨(HM.out.below (by repeat (first | exact Below.refl _ _ | apply aZ | apply bD))).congr fun t ht=>?_⟩,⟨uB BK.out⟩,⟨uH HB.out⟩⟩
                        by_cases hti : t = i
                        · rw [if_pos hti,M4,← HF.out,hti,if_pos (by have:=HI.out;have:=HIE.out;omega)]
                        · rw [if_neg hti]
                          by_cases hc2 : c < t∧t < c' + j
                          · rw [if_pos hc2,if_pos (by omega)]
                          · rw [if_neg hc2,if_neg (by have:=HIE.out;omega)]
                · obtain rfl : j = m:=by have:=HJ.out;omega
                  have c1 : decide ((j : Int) < (j : Int)) = false:=decide_eq_false (by omega)
                  go_wp2
                  go_roundg (l1.length - c)
                  case measure=>have:=HC.out;have:=CC.out;omega
                  case rel =>
                    have hcc:=HCE.out
                    have hmm:=HME.out
                    have hcl:=CC.out
                    subst hcc
                    refine ⟨c + 1,o2,β1,κ1,Di a0 (wT a0 y0) l1.length c M1,rfl,by rw [kS CC.out (by have:=HN.out;omega)],⟨by have:=HC.out;omega,CC.out⟩,⟨afJ.out,fun t ht=>?_⟩,HG,⟨(HM.out.below (by repeat (first | exact Below.refl _ _ | apply aZ | apply bD))).congr fun t ht=>?_⟩,⟨uH HB.out⟩⟩
                    · unfold Di
                      by_cases h1 : c < t
                      · rw [if_pos h1];exact Ht HP.out.pos _ _ _ _
                      · rw [if_neg h1];exact HNM.out t ht
                    · unfold Di
                      by_cases h1 : c < t
                      · rw [if_pos h1,if_pos (by omega),HE.out]
                      · rw [if_neg h1,if_neg (by omega)]
        · obtain rfl : c = l1.length:=by have:=HC.out;omega
          have c1 : decide ((l1.length : Int) < (l1.length : Int)) = false:=decide_eq_false (by omega)
          have e : o = r:=by have:=HG.out;rw [Nat.sub_self,zJ] at this;exact this
          subst e
          go_wp2
          go_ret
          exact ⟨rfl,uH HB.out⟩
attribute [local go_sem] tN tO wJ wK qL qM tQ tT   -- for this text's walks alone
set_option maxHeartbeats 8000000
set_option maxRecDepth 100000
/-! ### eH: function 102 -/
def eH.l0 : Nat → Int → List (List Int) → Int → Int → Int → List Int → Option (Int)
 | 0,_,_,_,_,_,_=>none
 | k + 1,x1,x5,x7,x8,Ru,F7=>if x8 < x7 then (if 0 ≤ x8 then (if x8 ≤ (wrap64 (x8 + x1)) then (if (wrap64 (x8 + x1)) ≤ (F7.length : Int) then (if x5.length < 5864062014805 then (eH.l0 k x1 (x5 ++ [((F7.take ((wrap64 (x8 + x1)) : Int).toNat).drop (x8 : Int).toNat)]) x7 (wrap64 (x8 + 1)) Ru F7) else (none)) else (none)) else (none)) else (none)) else ((eO.f Ru F7).bind fun WV=>((aK.f k WV x5).bind fun afL=>(some afL)))
def eH.f (k : Nat) (aH : Int) (aD : List Int) (a1 : Int) : Option (Int):=eH.l0 k a1 ([] : List (List Int)) a1 0 aH aD
theorem eH.calls (k : Nat) (aH : Int) (Bu : Nat → Prop) (bM : Option Addr) (bJ : Nat) (aD : List Int) (a1 : Int) (r : Int) (w : World) (akE : Kd.V (Kd.int .i64) 2 w w.heap.size (fun k_=>Bu k_) (.slice bM aD.length bJ) aD) (H : eH.f k aH aD a1 = some r) :
  Calls Try.prog 102 #[.agg #[.int .i64 aH,.slice bM aD.length bJ],.int .i64 a1] w fun e w'=>e = .returned (.int .i64 r)∧Below w.heap.size w w':=by
 have uD:=Try.underlying26;have WW:=zA (show Kd.V (Kd.int .i64) 2 w w.heap.size (fun k_=>(Bu k_ ∨ w.heap.size ≤ k_)) (.slice bM aD.length bJ) aD from Kd.fD akE (fun k_ hk=>.inl hk));have HB:=zA (Below.refl w.heap.size w);unfold eH.f at H;have H':=zA H;clear H;go_enter Try.func102,Try.ntmps102;go_wp2_with (first | ((with_reducible refine aT (N:=2) rfl ?_);refine bx 2 #[.int .i64 aH,.slice bM aD.length bJ] 26 ?_;intro zK hg w3 hbox hb;replace WW:=zA (Kd.jw (Kd.mZ (uV WW.out) zK (Nat.le_of_eq hg.symm)) hb);have uq:=zA (hbox);have akF:=gq HB hg;have:=geI akF;have akG:=gq HB hg;replace HB:=xH HB hb;have:=geI akG;clear hb hbox hg));go_loopg [5,8] k (fun kq v5 v8 w'=>∃ (gV : List (List Int)) (dM : Int),v8 = .int .i64 dM∧aa (eH.l0 kq a1 gV a1 dM aH aD = some r)∧aa (kq ≤ k)∧aa (Kd.N (Kd.slice 2 (Kd.int .i64)) 24 w' w.heap.size (fun k_=>(Bu k_ ∨ w.heap.size ≤ k_)∧k_ ≠ zK) v5 gV)∧aa (Kd.V (Kd.int .i64) 2 w' w.heap.size (fun k_=>(Bu k_ ∨ w.heap.size ≤ k_)∧ax k_ v5∧k_ ≠ zK) (.slice bM aD.length bJ) aD)∧aa (w'.heap[zK]? = some (.cells #[.int .i64 aH,(.slice bM aD.length bJ)] 26 (0,0)))∧aa (Below w.heap.size w w'));(case atStart=>exact ⟨(([] : List (List Int))),(0),eS,H',⟨Nat.le_refl _⟩,⟨by first | exact Kd.ru _ _ _ _ _ | exact Kd.wH _ _ _ _ _ | exact Kd.qz _ _ _ _ _ | exact Kd.rq _ _ _ _ _ | exact Kd.nE _ _ _ _ _⟩,⟨by (with_reducible repeat (first | apply Kd.jb | apply Kd.jc | apply Kd.iX));exact Kd.fD WW.out (fun _ hk=>⟨hk.1,⟨(by simp [Value.ownBlock]),hk.2⟩⟩)⟩,⟨uB uq.out⟩,⟨uH HB.out⟩⟩)
 case round =>
  clear H';(try clear c1);(try clear p2);obtain ⟨gV,dM,rfl,HA,HK1,iF,oW,uq,HB⟩:=hrel
  cases gk with
  | zero=>exact absurd HA.out (by simp [eH.l0])
  | succ k1 =>
   have H:=HA.out;clear HA;simp only [eH.l0] at H;replace H:=gF H;obtain ⟨pQ,H⟩|⟨pQ,H⟩:=H
   ·replace H:=bO H;obtain ⟨WV,A12,H⟩:=H;replace H:=bO H;obtain ⟨afL,A13,H⟩:=H;obtain rfl:=Option.some.inj H;have Rv:=bc uq 0;have Rw:=bc uq 1;have Rx:=bf uq 0;have Ry:=bf uq 1;go_wp2_with (first | ((with_reducible refine ag (f:=40) rfl ?_);refine gL (some 23) Try.func40 #[.agg #[.int .i64 aH,.slice bM aD.length bJ]] ?_;(with_reducible refine (eO.calls aH _ _ aD WV _ ?side1 ?side2 A12.out).mono ?_);(case side1=>exact uC ((Kd.iJ oW.out).2.2));(case side2=>exact (Kd.iJ oW.out).2.1);rintro e w15 ⟨rfl,hb⟩;refine ⟨_,rfl,?_⟩;replace iF:=zA (Kd.kv (uN iF.out) hb);replace oW:=zA (Kd.jw (uV oW.out) hb);replace uq:=xB uq hb;replace HB:=xH HB hb;(try clear hb);obtain ⟨aa4,WX,Ug⟩:=Kd.qN iF.out;subst Ug) | ((with_reducible refine ag (f:=112) rfl ?_);refine gL (some 25) Try.func112 #[.int .i64 WV,.slice aa4 gV.length WX] ?_;(with_reducible refine (aK.calls k1 WV _ _ gV afL _ ?side1 ?side2 A13.out).mono ?_);(case side1=>exact uC ((Kd.kw iF.out).2.2));(case side2=>exact (Kd.kw iF.out).2.1);rintro e w17 ⟨rfl,hb⟩;refine ⟨_,rfl,?_⟩;replace iF:=zA (Kd.kv (uN iF.out) hb);replace oW:=zA (Kd.jw (uV oW.out) hb);replace uq:=xB uq hb;replace HB:=xH HB hb;(try clear hb)));go_ret;exact ⟨eX,uH HB.out⟩
   replace H:=gN H;obtain ⟨c5,H⟩:=H;have mq:=eq_true c5;have uP : decide (0 ≤ dM) = true:=decide_eq_true c5;clear c5;replace H:=gN H;obtain ⟨c6,H⟩:=H;have oP:=eq_true c6;have uE : decide (dM ≤ (wrap64 (dM + a1))) = true:=decide_eq_true c6;replace H:=gN H;obtain ⟨c7,H⟩:=H;have Bl:=eq_true c7;have EE : decide ((wrap64 (dM + a1)) ≤ (aD.length : Int)) = true:=decide_eq_true c7;obtain ⟨I9,WY⟩:=eY ((aD.take ((wrap64 (dM + a1)) : Int).toNat).drop (dM : Int).toNat : List Int);(try rw [←WY.out] at H);replace H:=gZ H;obtain ⟨atB,H⟩:=H;obtain ⟨atC,ac5⟩:=eY (gV ++ [I9] : List (List Int));(try rw [←ac5.out] at H);have H':=zA H;clear H;have y8:=bc uq 0;have y9:=bc uq 1;have zZ:=bf uq 0;have za:=bf uq 1;have q10 : ((wrap64 (dM + a1)) : Int) ≤ ((aD.length : Int) : Int):=oD;obtain ⟨atD,M7,_,M8,_⟩:=info_parts lh;have hroom10 : aD.length ≤ bJ:=(Kd.iJ oW.out).2.1;have WZ : Kd.F (Kd.int .i64) _ _ bM aD.length aD:=(Kd.WP (base:=w.heap.size) oW.out).2.2;have atE : (dM : Int) ≤ ((wrap64 (dM + a1)) : Int):=oD;have atF : (0 : Int) ≤ (dM : Int):=oD;have W9:=ZQ (P:=Try.prog) 24 2 .i64 .i64 Try.underlying24 M7 1 M8 bM aD.length bJ dM (wrap64 (dM + a1)) atF atE q10 hroom10;have hr10:=Kd.aky (lo:=(dM : Int).toNat) (hi:=((wrap64 (dM + a1)) : Int).toNat) (c:=bJ) WZ (by omega) (by omega) hroom10;obtain ⟨A10,PE⟩ : ∃ A1,A1 = (if bJ = (dM : Int).toNat then bM else (bM : Option Addr).map (·.add ((dM : Int).toNat * 1))):=⟨_,rfl⟩;obtain ⟨c10,aa5⟩ : ∃ c1,c1 = bJ - (dM : Int).toNat:=⟨_,rfl⟩;have Xa : I9.length = ((wrap64 (dM + a1)) : Int).toNat - (dM : Int).toNat:=(by rw [WY.out,List.length_drop,List.length_take] <;> omega);rw [show ((aD).take ((wrap64 (dM + a1)) : Int).toNat).drop (dM : Int).toNat = I9 from WY.out.symm] at hr10;replace hr10 : Kd.F (Kd.int .i64) _ _ A10 I9.length I9:=(by rw [PE];exact hr10);rw [← Xa,← PE,← aa5] at W9;have Rz:=zA (show Kd.V (Kd.int .i64) 2 _ w.heap.size _ (.slice A10 I9.length c10) I9 from Kd.KH (by rw [Xa,aa5];exact Nat.sub_le_sub_right (Nat.le_trans (by omega) hroom10) _) hr10);have axn:=zA (show I9.length ≤ c10 from by rw [Xa,aa5];exact Nat.sub_le_sub_right (Nat.le_trans (by omega) hroom10) _);clear hr10 WZ hroom10 M7 M8 aa5;have azc:=zA Xa;have azd:=zA PE;clear Xa PE;replace q10:=eq_true q10;go_wp2_with (first | ((with_reducible refine fo (b:=.append) (xs:=#[.tmp 11,.tmp 19]) rfl ?_);at_builtin;refine Kd.GX (Kd.slice 2 (Kd.int .i64)) (w0:=w) w.heap.size rfl (.tmp 11) (.tmp 19) 65 24 (.slice none 0 0) 24 rfl Try.underlying65 Hy rfl (by decide) (by omega) u5 gV I9 [.slice A10 I9.length c10] (fun k_=>(Bu k_ ∨ w.heap.size ≤ k_)∧k_ ≠ zK) (fun k_=>((fun k_=>(Bu k_ ∨ w.heap.size ≤ k_)∧k_ ≠ zK)) k_∧ax k_ u5) rfl rfl ?aP (fun _ hk=>hk) ?aF ?aO ?aB ?aS ?aL ?_;(case aP=>exact (Kd.pu (Kd.iJ (Kd.fD (ok':=(fun k_=>((fun k_=>(Bu k_ ∨ w.heap.size ≤ k_)∧k_ ≠ zK)) k_∧ax k_ u5)) (Rz.out) (fun k_ ⟨a,c,b⟩=>⟨⟨a,b⟩,c⟩))).2.1 (Kd.V_F (Kd.fD (ok':=(fun k_=>((fun k_=>(Bu k_ ∨ w.heap.size ≤ k_)∧k_ ≠ zK)) k_∧ax k_ u5)) (Rz.out) (fun k_ ⟨a,c,b⟩=>⟨⟨a,b⟩,c⟩)))));(case aB=>exact (uH HB.out));(case aF=>exact (fun k_ hk=>⟨(.inr (Nat.le_trans (af (uH HB.out)) hk)),Kd.iK (g:=zK) (o:=.cells #[.int .i64 aH,.slice bM aD.length bJ] 26 (0,0)) (uB uq.out) k_ hk⟩));(case aO=>exact (uN iF.out));(case aS=>exact (af (uH HB.out)));(case aL=>have:=atB.out;omega);intro aze w11 ho hb hg hat;rw [← ac5.out] at ho;replace oW:=zA (Kd.lX (ok:=(fun k_=>(Bu k_ ∨ w.heap.size ≤ k_)∧k_ ≠ zK)) (by (with_reducible repeat (first | apply Kd.jb | apply Kd.jc | apply Kd.iX));exact Kd.fD oW.out (fun _ ⟨a,c,b⟩=>⟨⟨a,b⟩,c⟩)) hg hat);replace uq:=zA (iH (g:=zK) (o:=.cells #[.int .i64 aH,.slice bM aD.length bJ] 26 (0,0)) (uB uq.out) hg (Kd.ZI iF.out uq.out (by decide)));replace Rz:=zA (Kd.lX (ok:=(fun k_=>(Bu k_ ∨ w.heap.size ≤ k_)∧k_ ≠ zK)) (by (with_reducible repeat (first | apply Kd.jb | apply Kd.jc | apply Kd.iX));exact Kd.fD Rz.out (fun _ ⟨a,c,b⟩=>⟨⟨a,b⟩,c⟩)) hg hat);replace HB:=zA (hb);have akH:=zA (ho);clear iF ho hb hg hat));go_roundg k1;(case measure=>have:=HK1.out;omega);(case rel=>exact ⟨(atC),(wrap64 (dM + 1)),eS,H',⟨by have:=HK1.out;omega⟩,⟨uN akH.out⟩,⟨by (with_reducible repeat (first | apply Kd.jb | apply Kd.jc | apply Kd.iX));exact Kd.fD oW.out (fun _ ⟨⟨a,c⟩,b⟩=>⟨a,b,c⟩)⟩,⟨uB uq.out⟩,⟨uH HB.out⟩⟩)
/-! ### fu: function 86 -/
def fu.l0 : Nat → Int → Int → List Int → Option (Int)
 | 0,_,_,_=>none
 | k + 1,x3,KN,KO=>(jr.f KN KO (wrap64 (x3 + 1))).bind fun akI=>(if akI = true then ((eH.f k KN KO (wrap64 (x3 + 1))).bind fun aa6=>(if aa6 = 0 then (some x3) else (fu.l0 k (wrap64 (x3 + 1)) KN KO))) else (some x3))
def fu.f (k : Nat) (aH : Int) (aD : List Int) : Option (Int):=fu.l0 k 0 aH aD
theorem fu.calls (k : Nat) (aH : Int) (bM : Option Addr) (bJ : Nat) (aD : List Int) (r : Int) (w : World) (hr0_1 : Kd.C (Kd.int .i64) w bM aD.length aD) (jE : aD.length ≤ bJ) (H : fu.f k aH aD = some r) :
  Calls Try.prog 86 #[.agg #[.int .i64 aH,.slice bM aD.length bJ]] w fun e w'=>e = .returned (.int .i64 r)∧Below w.heap.size w w':=by
 have uD:=Try.underlying26;have fP:=zA hr0_1;have gG:=zA jE;clear hr0_1 jE;have HB:=zA (Below.refl w.heap.size w);unfold fu.f at H;have H':=zA H;clear H;go_enter Try.func86,Try.ntmps86;go_wp2_with (first | ((with_reducible refine aT (N:=1) rfl ?_);refine bx 1 #[.int .i64 aH,.slice bM aD.length bJ] 26 ?_;intro akJ hg w2 hbox hb;have ng:=zA (hbox);have akK:=gq HB hg;have:=geI akK;have akL:=gq HB hg;replace HB:=xH HB hb;have:=geI akL;clear hb hbox hg));go_loopg [3] k (fun kq v3 w'=>∃ (lv : Int),v3 = .int .i64 lv∧aa (fu.l0 kq lv aH aD = some r)∧aa (kq ≤ k)∧aa (w'.heap[akJ]? = some (.cells #[.int .i64 aH,(.slice bM aD.length bJ)] 26 (0,0)))∧aa (Below w.heap.size w w'));(case atStart=>exact ⟨(0),eS,H',⟨Nat.le_refl _⟩,⟨uB ng.out⟩,⟨uH HB.out⟩⟩)
 case round =>
  clear H';(try clear p2);obtain ⟨lv,rfl,HA,HK1,ng,HB⟩:=hrel
  cases gk with
  | zero=>exact absurd HA.out (by simp [fu.l0])
  | succ k1 =>
   have H:=HA.out;clear HA;simp only [fu.l0] at H;replace H:=bO H;obtain ⟨akI,A3,H⟩:=H;replace H:=gB H;obtain ⟨rfl,H⟩|⟨rfl,H⟩:=H
   ·replace H:=bO H;obtain ⟨aa6,A5,H⟩:=H;replace H:=gE H;obtain ⟨c6,oP,uE,H⟩|⟨c6,oP,uE,H⟩:=H
    ·have H':=zA H;clear H;have zn:=bc ng 0;have Dl:=bc ng 1;have zo:=bf ng 0;have Dm:=bf ng 1;go_wp2_with (first | ((with_reducible refine ag (f:=101) rfl ?_);refine gL (some 7) Try.func101 #[.agg #[.int .i64 aH,.slice bM aD.length bJ],.int .i64 (wrap64 (lv + 1))] ?_;(with_reducible refine (jr.calls aH _ _ aD (wrap64 (lv + 1)) true _ ?side1 ?side2 A3.out).mono ?_);(case side1=>exact uC ((Kd.aW fP.out HB.out)));(case side2=>exact gG.out);rintro e w12 ⟨rfl,hb⟩;refine ⟨_,rfl,?_⟩;replace ng:=xB ng hb;replace HB:=xH HB hb;(try clear hb);have qR:=bc ng 0;have qU:=bc ng 1;have qV:=bf ng 0;have qW:=bf ng 1) | (go_at_call 102;(with_reducible refine (eH.calls k1 aH (fun k_=>k_ < w.heap.size) _ _ aD (wrap64 (lv + 1)) aa6 _ ?side1 A5.out).mono ?_);(case side1=>exact Kd.KH gG.out (Kd.AQ (Kd.C_F (Kd.Ma .i64) fP.out) (uH HB.out)));rintro e w14 ⟨rfl,hb⟩;replace ng:=xB ng hb;replace HB:=xH HB hb;(try clear hb)));go_roundg k1;(case measure=>have:=HK1.out;omega);(case rel=>exact ⟨(wrap64 (lv + 1)),eS,H',⟨by have:=HK1.out;omega⟩,⟨uB ng.out⟩,⟨uH HB.out⟩⟩)
    clear c6;obtain rfl:=Option.some.inj H;have afM:=bc ng 0;have afN:=bc ng 1;have atG:=bf ng 0;have afO:=bf ng 1;go_wp2_with (first | ((with_reducible refine ag (f:=101) rfl ?_);refine gL (some 7) Try.func101 #[.agg #[.int .i64 aH,.slice bM aD.length bJ],.int .i64 (wrap64 (lv + 1))] ?_;(with_reducible refine (jr.calls aH _ _ aD (wrap64 (lv + 1)) true _ ?side1 ?side2 A3.out).mono ?_);(case side1=>exact uC ((Kd.aW fP.out HB.out)));(case side2=>exact gG.out);rintro e w8 ⟨rfl,hb⟩;refine ⟨_,rfl,?_⟩;replace ng:=xB ng hb;replace HB:=xH HB hb;(try clear hb);have y8:=bc ng 0;have y9:=bc ng 1;have zZ:=bf ng 0;have za:=bf ng 1) | (go_at_call 102;(with_reducible refine (eH.calls k1 aH (fun k_=>k_ < w.heap.size) _ _ aD (wrap64 (lv + 1)) aa6 _ ?side1 A5.out).mono ?_);(case side1=>exact Kd.KH gG.out (Kd.AQ (Kd.C_F (Kd.Ma .i64) fP.out) (uH HB.out)));rintro e w10 ⟨rfl,hb⟩;replace ng:=xB ng hb;replace HB:=xH HB hb;(try clear hb)));go_ret;exact ⟨eX,uH HB.out⟩
   ·obtain rfl:=Option.some.inj H;have aa7:=bc ng 0;have aqT:=bc ng 1;have aa8:=bf ng 0;have aqU:=bf ng 1;go_wp2_with (first | ((with_reducible refine ag (f:=101) rfl ?_);refine gL (some 7) Try.func101 #[.agg #[.int .i64 aH,.slice bM aD.length bJ],.int .i64 (wrap64 (lv + 1))] ?_;(with_reducible refine (jr.calls aH _ _ aD (wrap64 (lv + 1)) false _ ?side1 ?side2 A3.out).mono ?_);(case side1=>exact uC ((Kd.aW fP.out HB.out)));(case side2=>exact gG.out);rintro e w16 ⟨rfl,hb⟩;refine ⟨_,rfl,?_⟩;replace ng:=xB ng hb;replace HB:=xH HB hb;(try clear hb)));go_ret;exact ⟨eX,uH HB.out⟩
/- A list of rows of one's own in memory, of which the rows are read and the slots are set (rows may share their blocks); the reference's callees in plain form. -/
/-- The block q holds a row. -/
def Row (e' : TypeId) (w : World) (b q n : Nat) (l : List Int) : Prop:=b ≤ q∧∃ cur : Array Value,w.heap[q]? = some (.cells cur e' (0,0))∧∀ k,k < n → cur[k]? = some (.int .i64 (l.getD k 0))
section
variable {e e' : TypeId} {w w1 : World} {b g n q : Nat} {l : List Int} {M : Nat → List Int}
theorem Row.cell (h : Row e' w b q n l) {k : Nat} (hk : k < n) : w.cell? ⟨q,k,none⟩ = some (.int .i64 (l.getD k 0)):=by
  obtain ⟨_,cur,hc,hr⟩:=h
  rw [dH hc k]
  exact hr k hk
theorem Row.step (h : Row e' w b q n l) (hm : w1.heap[q]? = w.heap[q]?) : Row e' w1 b q n l:=by
  obtain ⟨hb,cur,hc,hr⟩:=h
  exact ⟨hb,cur,hm.trans hc,hr⟩
theorem Row.below (h : Row e' w b q n l) (hb : Below w.heap.size w w1) : Row e' w1 b q n l:=h.step (by
  obtain ⟨_,cur,hc,_⟩:=h
  exact hb.block _ (uU hc))
theorem Row.far (h : Row e' w b q n l) {cs : Array Value} (hg : w.heap[g]? = some (.cells cs e (0,0))) (he : e ≠ e') (i : Nat) (u : Value) : Row e' (w.setCell ⟨g,i,none⟩ u) b q n l:=h.step (by
  obtain ⟨_,cur,hc,_⟩:=h
  exact Below.heap_setCell w ⟨g,i,none⟩ u q (OB hc hg (Ne.symm he)))
structure Ms (e e' : TypeId) (w : World) (b g n : Nat) (M : Nat → List Int) : Prop where
  bg : b ≤ g
  out : ∃ cs : Array Value,w.heap[g]? = some (.cells cs e (0,0))∧∀ i,i < n → ∃ q c,cs[i]? = some (.slice (some ⟨q,0,none⟩) n c)∧Row e' w b q n (M i)
theorem Ms.get (h : Ms e e' w b g n M) {i : Nat} (hi : i < n) : ∃ q c,w.cell? ⟨g,i,none⟩ = some (.slice (some ⟨q,0,none⟩) n c)∧Row e' w b q n (M i):=by
  obtain ⟨cs,hc,hr⟩:=h.out
  obtain ⟨q,c,hq,hR⟩:=hr i hi
  exact ⟨q,c,by rw [dH hc i];exact hq,hR⟩
theorem Ms.frozen (h : Ms e e' w b g n M) (i : Nat) : w.frozen? ⟨g,i,none⟩ = false:=by
  obtain ⟨cs,hc,_⟩:=h.out
  exact kH hc i
theorem Ms.below (h : Ms e e' w b g n M) (hb : Below w.heap.size w w1) : Ms e e' w1 b g n M:=by
  obtain ⟨cs,hc,hr⟩:=h.out
  exact ⟨h.bg,cs,dD hc hb,fun i hi=>by
    obtain ⟨q,c,hq,hR⟩:=hr i hi
    exact ⟨q,c,hq,hR.below hb⟩⟩
theorem Ms.far (h : Ms e e' w b g n M) (he : e ≠ e') {q' : Nat} {l' : List Int} (hR : Row e' w b q' n l') (i : Nat) (u : Value) : Row e' (w.setCell ⟨g,i,none⟩ u) b q' n l':=by
  obtain ⟨cs,hc,_⟩:=h.out
  exact hR.far hc he i u
theorem Ms.set (h : Ms e e' w b g n M) (he : e ≠ e') {i c : Nat} (hi : i < n) (hR : Row e' w b q n l) :
    Ms e e' (w.setCell ⟨g,i,none⟩ (.slice (some ⟨q,0,none⟩) n c)) b g n (fun t=>if t = i then l else M t):=by
  obtain ⟨cs,hc,hr⟩:=h.out
  refine ⟨h.bg,_,ug hc i _,fun t ht=>?_⟩
  obtain ⟨q1,c1,hq,hR1⟩:=hr t ht
  by_cases ti : t = i
  · subst ti
    refine ⟨q,c,?_,?_⟩
    · rw [Array.getElem?_setIfInBounds_self_of_lt (Array.getElem?_eq_some_iff.1 hq).1]
    · simp only [if_true]
      exact hR.far hc he t _
  · refine ⟨q1,c1,?_,?_⟩
    · rw [Array.getElem?_setIfInBounds_ne (Ne.symm ti)];exact hq
    · simp only [if_neg ti]
      exact hR1.far hc he i _
theorem Ms.congr {M' : Nat → List Int} (h : Ms e e' w b g n M) (hM : ∀ i,i < n → M i = M' i) : Ms e e' w b g n M':=by
  obtain ⟨cs,hc,hr⟩:=h.out
  exact ⟨h.bg,cs,hc,fun i hi=>by
    obtain ⟨q,c,hq,hR⟩:=hr i hi
    exact ⟨q,c,hq,by rw [← hM i hi];exact hR⟩⟩
/-- A row of rows, each as long as there are rows. -/
theorem akM {ok : Nat → Prop} {v : Value} {rows : List (List Int)} {base : Nat} (h : Kd.R (Kd.slice e' (Kd.int .i64)) e w base ok v rows) (h0 : 0 < rows.length) (hl : ∀ r ∈ rows,r.length = rows.length) :
    ∃ g c,v = .slice (some ⟨g,0,none⟩) rows.length c∧Ms e e' w base g rows.length (fun i=>rows.getD i []):=by
  obtain ⟨g,c,rfl,hb,_,cs,hc⟩:=Kd.yB h h0
  refine ⟨g,c,rfl,hb,cs,hc,fun i hi=>?_⟩
  obtain ⟨cl,hcl,⟨v1,rfl,hR⟩,hcc⟩:=Kd.akw h ([] : List Int) (i : Int) (by omega) (by omega)
  simp only [jZ] at hR hcc
  have hlen : (rows.getD i []).length = rows.length:=hl _ (xK hi)
  obtain ⟨q,c',cur,rfl,h1,h2,h3,h4⟩:=Hu hR (by rw [hlen];exact h0)
  rw [hlen] at h4
  refine ⟨q,c',?_,h1,cur,h3,h4⟩
  have h5:=hcc 0 _ rfl
  have he : (⟨g,0,none⟩ : Addr).add (i * (Kd.slice e' (Kd.int .i64)).sz + 0) = ⟨g,i,none⟩:=by rw [addr_add];show (⟨g,0 + (i * 1 + 0),none⟩ : Addr) = _;rw [show 0 + (i * 1 + 0) = i from by omega]
  rw [he,dH hc,hlen] at h5
  exact h5
end
theorem Hz {p : Int} (hp : Pm p) {x y : Int} (h : x % p = y) (w : World) : Calls Try.prog 68 #[.int .i64 p,.int .i64 x] w fun e w'=>e = .returned (.int .i64 y)∧bA w w' :=
  jq.calls p x y w (by unfold jq.f;rw [if_neg hp.ne,KJ hp,h])
theorem PG {p : Int} (hp : Pm p) {x y : Int} (hx : 0 ≤ x∧x < p) (h : wT p x = y) (w : World) : Calls Try.prog 91 #[.int .i64 p,.int .i64 x] w fun e w'=>e = .returned (.int .i64 y)∧bA w w':=by
  obtain ⟨K,hK⟩:=BJ hp hx
  subst h
  exact iO.calls K p x _ w (hK K (Nat.le_refl _))
/- The reference's determinant: for own square rows of numbers modulo p it computes Pq. -/
def kr.f (_k : Nat) (a0 : Int) (l1 : List (List Int)) : Option Int:=if Ps a0 l1 then some (Pq a0 l1) else none
def kr.T24 : Bool × List (List Nat × List Nat):=(true,[([],[]),([],[]),([],[]),([],[]),([2,3],[2,3]),([4],[4]),([],[]),([5,6],[5,6]),([7],[7]),([],[]),([],[]),([],[]),([10,11],[10,11]),([12],[12]),([9,13],[9,13]),([8,14],[8,14]),([1,15],[1,15]),([16],[16]),([0,17,16],[0,17]),([18,18,0,1,2,3,4,5,6,7,8,9,10,11,12,13,14,15,16,17,18],[0,18])])
def kr.B24 : List Nat:=[0,0,0,0,12,28,0,124,252,0,0,0,3072,7168,15872,32764,65534,131070,262143,524287]
theorem kr.akN : mf .any (opsOf Try.f111 24) = kr.T24:=by kernel_rfl
theorem kr.afP : jP kr.T24.2 kr.B24 = true:=by kernel_rfl

set_option maxHeartbeats 8000000 in
set_option maxRecDepth 100000 in
theorem kr.calls (k : Nat) (a0 : Int) (v1 : Value) (l1 : List (List Int)) (r : Int) (w W : World) (ok : Nat → Prop) (hB : Below w.heap.size w W) (hR : Kd.R (Kd.slice 2 (Kd.int .i64)) 24 W w.heap.size ok v1 l1) (h : kr.f k a0 l1 = some r) :
    Calls Try.prog 111 #[.int .i64 a0,v1] W fun e w'=>e = .returned (.int .i64 r)∧Below w.heap.size w w':=by
  unfold kr.f at h
  split at h
  case isFalse=>cases h
  rename_i c2
  have HD:=aa.mk (Option.some.inj h)
  clear h
  obtain ⟨⟨hp2,hpt⟩,hn,hrows⟩:=c2
  have HP:=aa.mk (Pm.mk hp2 hpt)
  have HN:=aa.mk hn
  have HROWS:=aa.mk hrows
  have HB:=aa.mk hB
  clear hp2 hpt hn hB
  have HMK : aa (Try.prog.underlying 24 = some (.slice 2)):=⟨Try.underlying24⟩
  have HIN : aa ((Try.prog.info? 2).map (fun i=>(i.zero,i.size,i.bytes)) = some (some (.int .i64 0),1,8)):=⟨by kernel_rfl⟩
  by_cases h0 : 0 < l1.length
  case neg =>
    obtain rfl : l1 = []:=List.length_eq_zero_iff.1 (by omega)
    obtain ⟨A,c,rfl⟩:=Kd.bB hR
    clear hR hrows h0
    have e : (1 : Int) = r:=HD.out
    subst e
    go_enter Try.func111,Try.ntmps111
    go_wp2
    go_loopg [5,7] 1 (fun kq v5 v7 w'=>v5 = .int .i64 1∧v7 = .int .i64 0∧aa (Below w.heap.size w w'))
    case atStart=>exact ⟨rfl,rfl,⟨uH HB.out⟩⟩
    case round =>
      clear HB
      obtain ⟨rfl,rfl,HB⟩:=hrel
      have c1 : decide ((0 : Int) < 0) = false:=rfl
      go_wp2
      go_ret
      exact ⟨rfl,uH HB.out⟩
  case pos =>
    obtain ⟨g,cap,rfl,hM⟩:=akM hR h0 (fun x hx=>(hrows x hx).1)
    have HM:=aa.mk hM
    have H0:=aa.mk h0
    clear hM hR hrows h0
    go_enter Try.func111,Try.ntmps111
    go_wp2
    go_loopg [5,7] (l1.length + 1) (fun kq v5 v7 w'=>∃ (c : Nat) (o : Int) (M : Nat → List Int),v5 = .int .i64 o∧v7 = .int .i64 (c : Int)∧aa (kq + c = l1.length + 1∧c ≤ l1.length)∧aa ((0 ≤ o∧o < a0)∧∀ i,i < l1.length → Nm a0 (M i))∧aa (zJ a0 l1.length (l1.length - c) c M o = r)∧aa (Ms 24 2 w' w.heap.size g l1.length (M))∧aa (Below w.heap.size w w'))
    case atStart=>exact ⟨0,1,_,rfl,rfl,⟨by omega,by omega⟩,⟨⟨by omega,by have:=HP.out.two;omega⟩,fun i hi=>(HROWS.out _ (xK hi)).2⟩,HD,⟨HM.out.below (by repeat (first | exact Below.refl _ _ | apply aZ | apply bD))⟩,⟨uH HB.out⟩⟩
    case round =>
      clear HM HB HD
      obtain ⟨c,o,M,rfl,rfl,HC,HO,HG,HM,HB⟩:=hrel
      by_cases cc : c < l1.length
      case neg =>
        obtain rfl : c = l1.length:=by have:=HC.out;omega
        have c1 : decide ((l1.length : Int) < (l1.length : Int)) = false:=decide_eq_false (by omega)
        have e : o = r:=by have:=HG.out;rw [Nat.sub_self,zJ] at this;exact this
        subst e
        go_wp2
        go_ret
        exact ⟨rfl,uH HB.out⟩
      case pos =>
        have c1 : decide ((c : Int) < (l1.length : Int)) = true:=decide_eq_true (by omega)
        have CC:=aa.mk cc
        obtain ⟨P,hP⟩ : ∃ P,pivot M c (l1.length - c) c = P:=⟨_,rfl⟩
        have HPE:=aa.mk hP
        clear hP
        go_wp2
        clear cc c1
        go_loopg [8] (l1.length + 1 - c) (fun kq v8 w'=>∃ s : Nat,v8 = .int .i64 (s : Int)∧aa (kq + s = l1.length + 1∧c ≤ s∧s ≤ l1.length)∧aa (pivot M c (l1.length - s) s = P)∧aa (Ms 24 2 w' w.heap.size g l1.length (M))∧aa (Below w.heap.size w w'))
        case atStart=>exact ⟨c,rfl,⟨by have:=CC.out;omega,by omega,by have:=CC.out;omega⟩,HPE,⟨HM.out.below (by repeat (first | exact Below.refl _ _ | apply aZ | apply bD))⟩,⟨uH HB.out⟩⟩
        case round =>
          clear HM HB
          obtain ⟨s,rfl,HS,HPS,HM,HB⟩:=hrel
          by_cases cs : s < l1.length
          case neg =>
            obtain rfl : s = l1.length:=by have:=HS.out;omega
            have c1 : decide ((l1.length : Int) < (l1.length : Int)) = false:=decide_eq_false (by omega)
            have hP : P = l1.length:=by have:=HPS.out;rw [Nat.sub_self,pivot] at this;exact this.symm
            have e : (0 : Int) = r:=by
              have h:=HG.out
              rw [show l1.length - c = (l1.length - c - 1) + 1 from by have:=CC.out;omega,zJ,if_pos (by rw [HPE.out,hP])] at h
              exact h
            subst e
            clear hP
            go_wp2
            go_ret
            exact ⟨rfl,uH HB.out⟩
          case pos =>
            have c1 : decide ((s : Int) < (l1.length : Int)) = true:=decide_eq_true (by omega)
            obtain ⟨q,cq,hx,hrow⟩:=HM.out.get cs
            have HROW:=aa.mk hrow
            obtain ⟨y0,hy0⟩ : ∃ y0,(M s).getD c 0 = y0:=⟨_,rfl⟩
            have hcell:=hrow.cell CC.out
            rw [hy0] at hcell
            have CS:=aa.mk cs
            have HY:=aa.mk hy0
            clear hrow hy0
            have q0 : (0 ≤ (s : Int)) = True:=eq_true (by omega)
            have q1 : ((s : Int) < (l1.length : Int)) = True:=eq_true (by omega)
            have q2 : (0 ≤ (c : Int)) = True:=eq_true (by omega)
            have q3 : ((c : Int) < (l1.length : Int)) = True:=eq_true (by have:=CC.out;omega)
            by_cases hy : y0 = 0
            case pos =>
              subst hy
              have e0 : ((0 : Int) == 0) = true:=rfl
              go_wp2
              go_roundg (l1.length - s)
              case measure=>have:=HS.out;have:=CS.out;omega
              case rel =>
                refine ⟨s + 1,by rw [kS CS.out (by have:=HN.out;omega)],⟨by have:=HS.out;have:=CS.out;omega,by have:=HS.out;omega,CS.out⟩,⟨?_⟩,⟨HM.out.below (by repeat (first | exact Below.refl _ _ | apply aZ | apply bD))⟩,⟨uH HB.out⟩⟩
                have h:=HPS.out
                rw [show l1.length - s = (l1.length - (s + 1)) + 1 from by have:=CS.out;omega,pivot,if_pos HY.out] at h
                exact h
            case neg =>
              have e0 : (y0 == 0) = false:=beq_eq_false_iff_ne.mpr hy
              have hP : P = s:=by
                have h:=HPS.out
                rw [show l1.length - s = (l1.length - (s + 1)) + 1 from by have:=CS.out;omega,pivot,if_neg (by rw [HY.out];exact hy)] at h
                exact h.symm
              subst hP
              have hG : zJ a0 l1.length (l1.length - (c + 1)) (c + 1) (Di a0 (wT a0 ((M P).getD c 0)) l1.length c (rz M c P)) ((if P = c then o else (-o) % a0) * (M P).getD c 0 % a0) = r:=by
                have h:=HG.out
                rw [show l1.length - c = (l1.length - c - 1) + 1 from by have:=CC.out;omega,zJ,if_neg (by rw [HPE.out];have:=CS.out;omega),HPE.out] at h
                rw [show l1.length - (c + 1) = l1.length - c - 1 from by omega]
                exact h
              clear HG HPE HPS
              have HG:=aa.mk hG
              have hsn : ((P : Int) == (l1.length : Int)) = false:=beq_eq_false_iff_ne.mpr (by omega)
              clear hG
              go_upto_if 47 with (fail)
              clear e0 hsn q0 q1 q2 q3 c1
              go_cut [5] (fun v5 wc=>v5 = .int .i64 (if P = c then o else (-o) % a0)∧aa (Ms 24 2 wc w.heap.size g l1.length (rz M c P))∧aa (Row 2 wc w.heap.size q l1.length (M P))∧aa (Below w.heap.size w wc))
              case first =>
                clear hx hcell
                by_cases hpc : P = c
                case pos =>
                  have e1 : ((P : Int) != (c : Int)) = false:=bne_eq_false_iff_eq.mpr (by rw [hpc])
                  have e2 : ((P : Int) == (c : Int)) = true:=beq_iff_eq.mpr (by rw [hpc])
                  have hpi : (P : Int) = (c : Int):=by rw [hpc]
                  go_wp2
                  go_meet
                  case rel =>
                    have e : rz M c P = M:=funext fun i=>by
                      unfold rz
                      by_cases hi : i = c
                      · rw [if_pos hi,hpc,hi]
                      · rw [if_neg hi,if_neg (by rw [hpc];exact hi)]
                    exact ⟨by rw [if_pos hpc],⟨by rw [e];exact HM.out.below (by repeat (first | exact Below.refl _ _ | apply aZ | apply bD))⟩,⟨HROW.out.below (by repeat (first | exact Below.refl _ _ | apply aZ | apply bD))⟩,⟨uH HB.out⟩⟩
                case neg =>
                  have e1 : ((P : Int) != (c : Int)) = true:=bne_iff_ne.mpr (by omega)
                  have e2 : ((P : Int) == (c : Int)) = false:=beq_eq_false_iff_ne.mpr (by omega)
                  have hpi : ¬ (P : Int) = (c : Int):=by omega
                  obtain ⟨qc,kc,hxc,hrowc⟩:=HM.out.get CC.out
                  have HROWC:=aa.mk hrowc
                  obtain ⟨qp,kp,hxp,_⟩:=HM.out.get CS.out
                  have hfp:=HM.out.frozen P
                  clear hrowc
                  have q0 : (0 ≤ (P : Int)) = True:=eq_true (by omega)
                  have q1 : ((P : Int) < (l1.length : Int)) = True:=eq_true (by omega)
                  have q2 : (0 ≤ (c : Int)) = True:=eq_true (by omega)
                  have q3 : ((c : Int) < (l1.length : Int)) = True:=eq_true (by have:=CC.out;omega)
                  go_wp2_with (first | ((with_reducible refine qB (t:=24) (p:=54) rfl ?_);refine pq (t:=24) (p:=54) (v:=?vo) (w1:=(wr.setCell ⟨g,P,none⟩ (.slice (some ⟨qc,0,none⟩) l1.length kc))) ?hg ?ho ?hn ?hr ?_;(case ho=>rfl);(case hg=>rfl);(case hn=>rfl);(case hr=>first | (go_simp;done) | (go_simp;rfl));intro w2 hw;have n0_:=aa.mk (HM.out.set (c:=kc) (by decide) CS.out HROWC.out);have n1_:=aa.mk (HM.out.far (by decide) HROW.out P (.slice (some ⟨qc,0,none⟩) l1.length kc));have n2_:=aa.mk (lC (j:=P) (v:=.slice (some ⟨qc,0,none⟩) l1.length kc) HB.out HM.out.bg);rw [← hw] at n0_ n1_ n2_;clear HM HB HROW hw hxc hxp hfp HROWC;have HM:=n0_;have HROW:=n1_;have HB:=n2_;clear n0_ n1_ n2_;obtain ⟨qd,kd,hxd,_⟩:=HM.out.get CC.out;have hfc:=HM.out.frozen c) | ((with_reducible refine ag (f:=68) rfl ?_);refine gL (some 62) Try.func68 #[.int .i64 a0,.int .i64 (wrap64 (-o))] ?_;refine (Hz HP.out (y:=(-o) % a0) ?wv _).mono ?_;(case wv=>have:=HO.out;have:=HP.out.top;rw [df (by omega) (by omega)]);rintro e w' ⟨rfl,⟨nd,rfl⟩⟩;refine ⟨_,rfl,?_⟩))
                  go_meet
                  case rel =>
                    have n0_:=(HM.out.set (c:=cq) (by decide) CC.out HROW.out).congr (M':=rz M c P) (fun i _=>rfl)
                    have n1_:=HM.out.far (by decide) HROW.out c (.slice (some ⟨q,0,none⟩) l1.length cq)
                    have n2_:=lC (j:=c) (v:=.slice (some ⟨q,0,none⟩) l1.length cq) HB.out HM.out.bg
                    exact ⟨by rw [if_neg hpc],⟨n0_.below (by repeat (first | exact Below.refl _ _ | apply aZ | apply bD))⟩,⟨n1_.below (by repeat (first | exact Below.refl _ _ | apply aZ | apply bD))⟩,⟨uH n2_⟩⟩
              case rest =>
                clear HM HB HROW hx hcell
                obtain ⟨rfl,HM,HROW,HB⟩:=hcut
                have hMc : rz M c P c = M P:=by unfold rz;rw [if_pos rfl]
                have hNm : ∀ i,i < l1.length → Nm a0 (rz M c P i):=fun i hi=>by
                  unfold rz
                  by_cases h1 : i = c
                  · rw [if_pos h1];exact HO.out.2 _ CS.out
                  · by_cases h2 : i = P
                    · rw [if_neg h1,if_pos h2];exact HO.out.2 _ CC.out
                    · rw [if_neg h1,if_neg h2];exact HO.out.2 _ hi
                have hoB : 0 ≤ (if P = c then o else (-o) % a0)∧(if P = c then o else (-o) % a0) < a0:=by
                  by_cases h1 : P = c
                  · rw [if_pos h1];exact HO.out.1
                  · rw [if_neg h1];exact mi HP.out.pos _
                have hG:=HG.out
                have hR1:=HROW.out
                have hy1:=HY.out
                rw [← hMc] at hG hR1 hy1
                clear HG hMc HO HROW HY hy
                generalize rz M c P = M1 at HM hNm hG hR1 hy1
                generalize (if P = c then o else (-o) % a0) = o1 at hoB hG ⊢
                have KM:=(hNm c CC.out).C8 HP.out.pos c
                rw [hy1] at KM hG
                obtain ⟨o2,ho2⟩ : ∃ o2,o1 * y0 % a0 = o2:=⟨_,rfl⟩
                obtain ⟨iv,hiv⟩ : ∃ iv,wT a0 y0 = iv:=⟨_,rfl⟩
                have hivB:=FO HP.out y0
                rw [hiv] at hivB
                rw [ho2,hiv] at hG
                have hm1:=BI HP.out hoB.1 hoB.2 KM.1 KM.2
                have hmul : IntKind.i64.wrap (o1 * y0) = o1 * y0:=by rw [jW,df (by omega) (by omega)]
                have htm : Int.tmod (o1 * y0) a0 = o2:=by rw [lU hm1.1,ho2]
                have afJ : aa (0 ≤ o2∧o2 < a0):=⟨by rw [← ho2];exact mi HP.out.pos _⟩
                have HG:=aa.mk hG
                have HNM:=aa.mk hNm
                have HROW:=aa.mk hR1
                have HY:=aa.mk hy1
                have HYB:=aa.mk KM
                have HIV:=aa.mk hiv
                have HIVB:=aa.mk hivB
                have hcell : wc.cell? ⟨q,c,none⟩ = some (.int .i64 y0):=by rw [← hy1];exact hR1.cell CC.out
                clear hG hNm hR1 hy1 KM hiv hivB hm1 ho2 hoB HS CS cs
                have hpz : (a0 == 0) = false:=beq_eq_false_iff_ne.mpr HP.out.ne
                have hpz2 : ¬ a0 = 0:=HP.out.ne
                have q2 : (0 ≤ (c : Int)) = True:=eq_true (by omega)
                have q3 : ((c : Int) < (l1.length : Int)) = True:=eq_true (by have:=CC.out;omega)
                have hadd : IntKind.i64.wrap ((c : Int) + 1) = ((c + 1 : Nat) : Int):=by rw [jW,kS CC.out (by have:=HN.out;omega)]
                go_wp2_with (first | ((with_reducible refine ag (f:=91) rfl ?_);refine gL (some 76) Try.func91 #[.int .i64 a0,.int .i64 y0] ?_;refine (PG HP.out HYB.out HIV.out _).mono ?_;rintro e w' ⟨rfl,⟨nd,rfl⟩⟩;refine ⟨_,rfl,?_⟩))
                have n0_:=aa.mk (HM.out.below (bD (Below.refl _ _) nd))
                have n1_:=aa.mk (HROW.out.below (bD (Below.refl _ _) nd))
                have n2_:=aa.mk (bD HB.out nd)
                clear HM HROW HB hcell hmul htm q2 q3 hadd
                have HM:=n0_;have HROW:=n1_;have HB:=n2_
                clear n0_ n1_ n2_
                generalize wc.drewN nd = w4 at HM HROW HB ⊢
                obtain ⟨E,hE⟩ : ∃ E : Nat → List Int,E = fun i=>pI a0 ((M1 i).getD c 0 * iv % a0) (M1 i) (M1 c) l1.length:=⟨_,rfl⟩
                have HE:=aa.mk hE
                clear hE
                go_loopg [11] (l1.length - c) (fun kq v11 w'=>∃ s : Nat,v11 = .int .i64 (s : Int)∧aa (kq + s = l1.length + 1∧c < s∧s ≤ l1.length)∧aa (Ms 24 2 w' w.heap.size g l1.length (fun t=>if c < t∧t < s then E t else M1 t))∧aa (Row 2 w' w.heap.size q l1.length (M1 c))∧aa (Below w.heap.size w w'))
                case atStart =>
                  refine ⟨c + 1,rfl,⟨by have:=CC.out;omega,by omega,CC.out⟩,⟨(HM.out.below (by repeat (first | exact Below.refl _ _ | apply aZ | apply bD))).congr fun t _=>?_⟩,⟨HROW.out.below (by repeat (first | exact Below.refl _ _ | apply aZ | apply bD))⟩,⟨uH HB.out⟩⟩
                  rw [if_neg (by omega)]
                case round =>
                  clear HM HROW HB
                  obtain ⟨s,rfl,HS,HM,HROW,HB⟩:=hrel
                  by_cases cs : s < l1.length
                  case neg =>
                    obtain rfl : s = l1.length:=by have:=HS.out;omega
                    have c1 : decide ((l1.length : Int) < (l1.length : Int)) = false:=decide_eq_false (by omega)
                    go_wp2
                    go_roundg (l1.length - c)
                    case measure=>have:=HC.out;have:=CC.out;omega
                    case rel =>
                      refine ⟨c + 1,o2,Di a0 iv l1.length c M1,rfl,by rw [kS CC.out (by have:=HN.out;omega)],⟨by have:=HC.out;have:=CC.out;omega,CC.out⟩,⟨afJ.out,fun t ht=>?_⟩,HG,⟨(HM.out.below (by repeat (first | exact Below.refl _ _ | apply aZ | apply bD))).congr fun t ht=>?_⟩,⟨uH HB.out⟩⟩
                      · unfold Di
                        by_cases h1 : c < t
                        · rw [if_pos h1];exact Ht HP.out.pos _ _ _ _
                        · rw [if_neg h1];exact HNM.out t ht
                      · unfold Di
                        by_cases h1 : c < t
                        · rw [if_pos h1,if_pos (by omega),HE.out]
                        · rw [if_neg h1,if_neg (by omega)]
                  case pos =>
                    have CS:=aa.mk cs
                    have c1 : decide ((s : Int) < (l1.length : Int)) = true:=decide_eq_true (by omega)
                    obtain ⟨qs,ks,hx,hrow⟩:=HM.out.get cs
                    simp only [if_neg (show ¬ (c < s∧s < s) from by omega)] at hrow
                    obtain ⟨x0,hx0⟩ : ∃ x0,(M1 s).getD c 0 = x0:=⟨_,rfl⟩
                    have hcell:=hrow.cell CC.out
                    have hxB:=(HNM.out s cs).C8 HP.out.pos c
                    rw [hx0] at hcell hxB
                    obtain ⟨f,hf⟩ : ∃ f,x0 * iv % a0 = f:=⟨_,rfl⟩
                    have hm1:=BI HP.out hxB.1 hxB.2 HIVB.out.1 HIVB.out.2
                    have hmul : IntKind.i64.wrap (x0 * iv) = x0 * iv:=by rw [jW,df (by omega) (by omega)]
                    have htm : Int.tmod (x0 * iv) a0 = f:=by rw [lU hm1.1,hf]
                    have HF : aa (E s = pI a0 f (M1 s) (M1 c) l1.length):=⟨by rw [HE.out,← hf,← hx0]⟩
                    have HFB : aa (0 ≤ f∧f < a0):=⟨by rw [← hf];exact mi HP.out.pos _⟩
                    have HRS:=aa.mk hrow
                    clear hrow hx0 hxB hf hm1
                    have q0 : (0 ≤ (s : Int)) = True:=eq_true (by omega)
                    have q1 : ((s : Int) < (l1.length : Int)) = True:=eq_true (by omega)
                    have q2 : (0 ≤ (c : Int)) = True:=eq_true (by omega)
                    have q3 : ((c : Int) < (l1.length : Int)) = True:=eq_true (by have:=CC.out;omega)
                    obtain ⟨W1,hW1⟩ : ∃ W1,W1 = wr:=⟨_,rfl⟩
                    subst hW1
                    go_wp2_with (first | ((with_reducible refine aT (N:=95) rfl ?_);refine Kd.mX (Kd.int .i64) _ 2 ?hg (N:=95) ?hd (xs:=([] : List Int)) (inner:=[]) (ok:=fun _=>True) (okp:=fun _=>True) ?hr ?hp (fun _ hk=>hk) trivial (Below.refl _ _) (Nat.le_refl _) (by simp) ?_;(case hd=>rfl);(case hg=>rfl);(case hr=>first | (go_simp;done) | (go_simp;rfl));(case hp=>exact (cB.none _ _));intro v95 w5 ho hb hg_ hnew_;clear hg_ hnew_;have HN0:=aa.mk ho;have HB0:=aa.mk hb;clear ho hb))
                    clear hmul htm hcell q2 q3 c1 hpz hpz2
                    have HX:=aa.mk hx
                    clear hx
                    go_loopg [13,14] (l1.length + 1) (fun kq v13 v14 w'=>∃ (z13 : Value) (p : Nat),v13 = z13∧v14 = .int .i64 (p : Int)∧aa (kq + p = l1.length + 1∧p ≤ l1.length)∧aa (Kd.R (Kd.int .i64) 2 w' W1.heap.size (fun _=>True) z13 (pI a0 f (M1 s) (M1 c) p))∧aa (Below W1.heap.size W1 w'))
                    case atStart=>exact ⟨_,0,rfl,rfl,⟨by omega,by omega⟩,⟨uR HN0.out⟩,⟨uH HB0.out⟩⟩
                    case round =>
                      clear HN0 HB0
                      obtain ⟨z13,p,akO,rfl,HPP,HN0,HB0⟩:=hrel
                      rw [akO]
                      clear akO
                      by_cases cp : p < l1.length
                      case neg =>
                        obtain rfl : p = l1.length:=by have:=HPP.out;omega
                        have c1 : decide ((l1.length : Int) < (l1.length : Int)) = false:=decide_eq_false (by omega)
                        obtain ⟨q2,k2,cur,rfl,hb2,hl2,hc2,hr2⟩:=Hu HN0.out (by rw [Al];exact H0.out)
                        rw [Al] at hr2 hl2 ⊢
                        have n0_:=aa.mk (HM.out.below HB0.out)
                        have n1_:=aa.mk (HROW.out.below HB0.out)
                        have n2_:=xH HB HB0.out
                        have HR2 : aa (Row 2 wr w.heap.size q2 l1.length (E s)):=⟨Nat.le_trans (af HB.out) hb2,cur,hc2,by rw [HF.out];exact hr2⟩
                        have hx2:=jF HB0.out HX.out
                        clear HM HROW HB hb2 hl2 hc2 hr2 HN0
                        have HM:=n0_;have HROW:=n1_;have HB:=n2_
                        clear n0_ n1_ n2_
                        have hfs:=HM.out.frozen s
                        go_wp2
                        go_roundg (l1.length - s)
                        case measure=>have:=HS.out;have:=CS.out;omega
                        case rel =>
                          have n0_:=(HM.out.set (c:=k2) (by decide) CS.out HR2.out).congr (M':=fun t=>if c < t∧t < s + 1 then E t else M1 t) (fun t ht=>by
                            by_cases hts : t = s
                            · rw [if_pos hts,if_pos (by have:=HS.out;omega),hts]
                            · rw [if_neg hts]
                              by_cases h2 : c < t∧t < s
                              · rw [if_pos h2,if_pos (by omega)]
                              · rw [if_neg h2,if_neg (by omega)])
                          have n1_:=HM.out.far (by decide) HROW.out s (.slice (some ⟨q2,0,none⟩) l1.length k2)
                          have n2_:=lC (j:=s) (v:=.slice (some ⟨q2,0,none⟩) l1.length k2) HB.out HM.out.bg
                          exact ⟨s + 1,by rw [kS CS.out (by have:=HN.out;omega)],⟨by have:=HS.out;have:=CS.out;omega,by have:=HS.out;omega,CS.out⟩,⟨n0_.below (by repeat (first | exact Below.refl _ _ | apply aZ | apply bD))⟩,⟨n1_.below (by repeat (first | exact Below.refl _ _ | apply aZ | apply bD))⟩,⟨uH n2_⟩⟩
                      case pos =>
                        have CP:=aa.mk cp
                        have c1 : decide ((p : Int) < (l1.length : Int)) = true:=decide_eq_true (by omega)
                        obtain ⟨x1,hx1⟩ : ∃ x1,(M1 s).getD p 0 = x1:=⟨_,rfl⟩
                        obtain ⟨y1,hy1⟩ : ∃ y1,(M1 c).getD p 0 = y1:=⟨_,rfl⟩
                        have hA:=HX.out
                        have hB1:=HRS.out.cell cp
                        have hC1:=HROW.out.cell cp
                        have Pz:=(HNM.out s CS.out).C8 HP.out.pos p
                        have PD:=(HNM.out c CC.out).C8 HP.out.pos p
                        rw [hx1] at hB1 Pz
                        rw [hy1] at hC1 PD
                        obtain ⟨z,hz⟩ : ∃ z,(x1 - f * y1) % a0 = z:=⟨_,rfl⟩
                        have HZ : aa (pI a0 f (M1 s) (M1 c) (p + 1) = pI a0 f (M1 s) (M1 c) p ++ [z]):=⟨by unfold pI;rw [List.range_succ,List.map_append,List.map_singleton,hx1,hy1,hz]⟩
                        have HZE:=aa.mk hz
                        have HXB:=aa.mk Pz
                        have atH:=aa.mk PD
                        have HA:=aa.mk hA
                        have HB1:=aa.mk hB1
                        have HC1:=aa.mk hC1
                        have HLEN:=aa.mk (Al a0 f (M1 s) (M1 c) p)
                        clear hx1 hy1 hz Pz PD hA hB1 hC1 cp
                        generalize pI a0 f (M1 s) (M1 c) p = L at HN0 HZ HLEN
                        have cp1:=CP.out
                        go_wp2
                        clear cp1
                        have q2 : (0 ≤ (p : Int)) = True:=eq_true (by omega)
                        have q3 : ((p : Int) < (l1.length : Int)) = True:=eq_true (by have:=CP.out;omega)
                        have n0_:=aa.mk (Kd.iV HN0.out)
                        have n1_:=aa.mk (aZ HB0.out)
                        clear HN0 HB0
                        have HN0:=n0_;have HB0:=n1_
                        clear n0_ n1_
                        refine kF (n:=20) (S:=fun w'=>w'.cell? ⟨g,s,none⟩ = some (.slice (some ⟨qs,0,none⟩) l1.length ks)∧w'.cell? ⟨qs,p,none⟩ = some (.int .i64 x1)∧w'.cell? ⟨q,p,none⟩ = some (.int .i64 y1)) (ds:=[]) (bl 20 0) (by kernel_rfl) rfl (by kernel_rfl) ⟨jF HB0.out HA.out,jF HB0.out HB1.out,jF HB0.out HC1.out⟩ (fun hHeld=>?_)
                        refine gX kr.akN kr.afP (fun HT_ HW_=>?_)
                        generalize wr.drew = w6 at HN0 HB0 hHeld ⊢
                        refine pu_ 0 101 (bl 20 1) HT_ ?_
                        refine pu_ 1 102 (bl 20 3) HT_ ?_
                        refine pu_ 2 103 (bl 20 7) HT_ ?_
                        refine pu_ 3 104 (bl 20 15) HT_ ?_
                        refine pu_ 4 105 (bl 20 31) HT_ ?_
                        refine ta_ 5 106 (bl 20 63) HT_ HW_ hHeld ?_
                        refine pu_ 6 107 (bl 20 127) HT_ ?_
                        refine pu_ 7 108 (bl 20 255) HT_ ?_
                        refine ta_ 8 109 (bl 20 511) HT_ HW_ hHeld ?_
                        refine pu_ 9 110 (bl 20 1023) HT_ ?_
                        refine pu_ 10 111 (bl 20 2047) HT_ ?_
                        refine pu_ 11 112 (bl 20 4095) HT_ ?_
                        refine pu_ 12 113 (bl 20 8191) HT_ ?_
                        refine ta_ 13 114 (bl 20 16383) HT_ HW_ hHeld ?_
                        refine pu_ 14 115 (bl 20 32767) HT_ ?_
                        refine pu_ 15 116 (bl 20 65535) HT_ ?_
                        refine on_ 16 (some 117) (bl 20 131071) HT_ (fun K hK=>?_)
                        refine gS Try.func68 #[.int .i64 a0,.int .i64 (wrap64 (x1 - wrap64 (f * y1)))] ?_
                        refine (Hz HP.out (y:=z) ?wv _).mono ?_
                        (case wv=>have h1:=HXB.out;have h2:=atH.out;have h3:=BI HP.out HFB.out.1 HFB.out.2 h2.1 h2.2;have h4:=HP.out.top;rw [df (x:=f * y1) (by omega) (by omega),df (by omega) (by omega),HZE.out])
                        rintro e w' ⟨rfl,⟨nd,rfl⟩⟩
                        refine ⟨_,rfl,?_⟩
                        refine hK.out _ _ hHeld (fun hHeld=>?_)
                        clear hK K
                        refine no_ 117 ?_
                        have n0_:=aa.mk (Kd.uh HN0.out nd)
                        have n1_:=aa.mk (bD HB0.out nd)
                        clear HN0 HB0
                        have HN0:=n0_;have HB0:=n1_
                        clear n0_ n1_
                        generalize w6.drewN nd = w7 at HN0 HB0 hHeld ⊢
                        refine on_ 17 (some 118) (bl 20 262143) HT_ (fun K hK=>?_)
                        refine Hw (w1:=?_) (v:=?_) (by rfl) rfl ?_ ?_
                        rotate_left 2
                        · go_simp
                          constructor
                          · rfl
                          · rfl
                        refine hK.out _ _ ⟨jF (gJ (Below.refl _ _) _) hHeld.1,jF (gJ (Below.refl _ _) _) hHeld.2.1,jF (gJ (Below.refl _ _) _) hHeld.2.2⟩ (fun hHeld=>?_)
                        clear hK K
                        refine no_ 118 ?_
                        refine on_ 18 (some 119) (bl 20 524287) HT_ (fun K hK=>?_)
                        refine Kd.Bq (Kd.int .i64) (w0:=W1) W1.heap.size (by rfl) (.tmp 101) (.tmp 118) 24 2 (.int .i64 0) 8 rfl HMK.out HIN.out rfl (by decide) (by omega) z13 L z [.int .i64 z] (fun _=>True) (fun _=>False) rfl rfl ?aP (fun _ hk=>hk.elim) ?aF ?aO ?aB ?aS ?aL ?_
                        (case aP=>exact rfl)
                        (case aB=>exact (uH HB0.out))
                        (case aF=>exact (fun _ _=>trivial))
                        (case aO=>exact (uR HN0.out))
                        (case aS=>exact (af (uH HB0.out)))
                        (case aL=>have:=HLEN.out;have:=CP.out;have:=HN.out;omega)
                        intro azf w8 ho hb hg hat
                        rw [← HZ.out] at ho
                        have n0_:=aa.mk ho
                        have n1_:=aa.mk hb
                        clear HN0 HB0 ho hb hg hat
                        have HN0:=n0_;have HB0:=n1_
                        clear n0_ n1_
                        refine hK.out _ _ ⟨jF HB0.out HA.out,jF HB0.out HB1.out,jF HB0.out HC1.out⟩ (fun hHeld=>?_)
                        clear hK K
                        refine no_ 119 ?_
                        refine pu_ 19 13 (bl 20 1048575) HT_ ?_
                        refine done_ (done_of HT_.out (by kernel_rfl)) ?_
                        clear hHeld q2 q3
                        go_wp2
                        go_roundg (l1.length - p)
                        case measure=>have:=HPP.out;have:=CP.out;omega
                        case rel=>exact ⟨_,p + 1,rfl,by rw [kS CP.out (by have:=HN.out;omega)],⟨by have:=HPP.out;have:=CP.out;omega,CP.out⟩,⟨uR HN0.out⟩,⟨uH HB0.out⟩⟩
/- The reference's Hankel determinant: printed by a program of this session; its last call by hand (the rows are handed over to what sets their slots). -/
/-! ### gM: function 100 -/
def gM.l0 : Nat → Int → List (List Int) → Int → Int → List Int → Option (Int)
 | 0,_,_,_,_,_=>none
 | k + 1,x1,x5,x6,RA,KP=>if x6 < x1 then (if 0 ≤ x6 then (if x6 ≤ (wrap64 (x6 + x1)) then (if (wrap64 (x6 + x1)) ≤ (KP.length : Int) then ((jX.f ((KP.take ((wrap64 (x6 + x1)) : Int).toNat).drop (x6 : Int).toNat)).bind fun t138=>(if x5.length < 5864062014805 then (gM.l0 k x1 (x5 ++ [t138]) (wrap64 (x6 + 1)) RA KP) else (none))) else (none)) else (none)) else (none)) else ((kr.f k RA x5).bind fun O8=>(some O8))
def gM.f (k : Nat) (aH : Int) (aD : List Int) (a1 : Int) : Option (Int):=gM.l0 k a1 (([] : List (List Int))) 0 aH aD
set_option maxHeartbeats 8000000 in
set_option maxRecDepth 100000 in
theorem gM.calls (k : Nat) (aH : Int) (bM : Option Addr) (bJ : Nat) (aD : List Int) (a1 : Int) (r : Int) (w : World) (hr0_1 : Kd.C (Kd.int .i64) w bM aD.length aD) (jE : aD.length ≤ bJ) (h : gM.f k aH aD a1 = some r) :
  Calls Try.prog 100 #[.agg #[.int .i64 aH,.slice bM aD.length bJ],.int .i64 a1] w fun e w'=>e = .returned (.int .i64 r)∧Below w.heap.size w w':=by
 have azg:=Try.underlying26
 have fP:=zA hr0_1
 have gG:=zA jE
 clear hr0_1 jE
 have HB:=zA (Below.refl w.heap.size w)
 have H : (gM.l0 k a1 (([] : List (List Int))) 0 aH aD) = some r:=h
 clear h
 obtain ⟨akP,M9⟩ : ∃ y_ : List (List Int),y_ = (([] : List (List Int))):=⟨_,rfl⟩
 replace H : (gM.l0 k a1 akP 0 aH aD) = some r:=by first | (rw [M9];with_reducible exact H) | (have H2_:=(Option.bind_some _ _).symm.trans H;rw [M9];with_reducible exact H2_) | (have H2_:=(Option.bind_some _ _).symm.trans H;with_reducible exact H2_) | with_reducible exact H | (rw [M9];exact H) | exact H
 have ac6:=zA M9
 clear M9
 have H':=zA H
 clear H
 go_enter Try.func100,Try.ntmps100
 go_wp2_with (first | ((with_reducible refine aT (N:=2) rfl ?_);refine Js ?hg (N:=2) ?hd (cs:=#[.int .i64 aH,.slice bM aD.length bJ]) (t:=26) ?hr ?_;(case hd=>rfl);(case hg=>rfl);(case hr=>first | (go_simp;done) | (go_simp;rfl));intro Fh hg w3 hbox hb;have n0_:=xH HB hb;have n1_:=zA (hbox);have n2_:=zA ((by rw [hg];exact (af (uH HB.out)) : w.heap.size ≤ Fh));have n3_:=zA ((by rw [hg];exact (af (uH HB.out)) : w.heap.size ≤ Fh));clear HB;have HB:=n0_;have rA:=n1_;have axo:=n2_;have akQ:=n3_;have:=geI akQ;clear n0_ n1_ n2_ n3_ hb hbox hg) | ((with_reducible refine aT (N:=7) rfl ?_);refine Kd.aiH (Kd.slice 2 (Kd.int .i64)) _ 24 ?hg (N:=7) ?hd (xs:=([] : List (List Int))) (inner:=[]) (ok:=fun _=>True) (okp:=fun _=>True) ?hr ?hp (fun _ hk=>hk) trivial (Below.refl _ _) (Nat.le_refl _) (by simp) ?_;(case hd=>rfl);(case hg=>rfl);(case hr=>first | (go_simp;done) | (go_simp;rfl));(case hp=>exact (cB.none _ _));intro azh w4 ho5 hb hg_ hnew_;clear hg_ hnew_;(first | rw [← ac6.out] at ho5 | (simp only [Int.reduceToNat] at ho5;rw [← ac6.out] at ho5));have n0_:=zA (Kd.ZC ho5 (af (uH HB.out)));have n1_:=xB rA hb;have n2_:=xH HB hb;clear rA HB;have akR:=n0_;have rA:=n1_;have HB:=n2_;clear n0_ n1_ n2_ hb ho5))
 go_loopg [5,6] k (fun kq v5 v6 w'=>∃ (gV : List (List Int)) (oC : Int),v6 = .int .i64 oC∧aa (gM.l0 kq a1 gV oC aH aD = some r)∧aa (kq ≤ k)∧aa (Kd.S (Kd.slice 2 (Kd.int .i64)) 24 w' w.heap.size (fun _=>True) v5 gV)∧aa (w'.heap[Fh]? = some (.cells #[.int .i64 aH,(.slice bM aD.length bJ)] 26 (0,0)))∧aa (Below w.heap.size w w'))
 case atStart=>exact ⟨(akP),(0),(by first | rfl | (simp;done) | (simp [*];done)),H',⟨Nat.le_refl _⟩,⟨by (with_reducible repeat (first | apply Kd.FL | apply Kd.FM | apply Kd.J4));exact akR.out⟩,⟨uB rA.out⟩,⟨uH HB.out⟩⟩
 case round =>
  clear H'
  try clear c1
  try clear p2
  obtain ⟨gV,oC,rfl,HA,HK1,iF,rA,HB⟩:=hrel
  cases gk with
  | zero=>exact absurd HA.out (by simp [gM.l0])
  | succ k1 =>
   have H:=HA.out
   clear HA
   simp only [gM.l0] at H
   by_cases c6 : oC < a1
   ·rw [if_pos c6] at H
    have oP : decide (oC < a1) = true:=decide_eq_true c6
    clear c6
    by_cases c7 : 0 ≤ oC
    ·rw [if_pos c7] at H
     have Bl:=eq_true c7
     have EE : decide (0 ≤ oC) = true:=decide_eq_true c7
     clear c7
     by_cases c8 : oC ≤ (wrap64 (oC + a1))
     ·rw [if_pos c8] at H
      have yE:=eq_true c8
      have Ja : decide (oC ≤ (wrap64 (oC + a1))) = true:=decide_eq_true c8
      by_cases c9 : (wrap64 (oC + a1)) ≤ (aD.length : Int)
      ·rw [if_pos c9] at H
       have Da:=eq_true c9
       have I5 : decide ((wrap64 (oC + a1)) ≤ (aD.length : Int)) = true:=decide_eq_true c9
       replace H:=Option.bind_eq_some_iff.mp H
       obtain ⟨t138,akS,H⟩:=H
       replace H : (if gV.length < 5864062014805 then (gM.l0 k1 a1 (gV ++ [t138]) (wrap64 (oC + 1)) aH aD) else (none)) = some r:=H
       have A10:=zA akS
       clear akS
       by_cases c11 : gV.length < 5864062014805
       ·rw [if_pos c11] at H
        have Wh:=zA c11
        clear c11
        obtain ⟨aaG,Na⟩ : ∃ y_ : List (List Int),y_ = (gV ++ [t138]):=⟨_,rfl⟩
        replace H : (gM.l0 k1 a1 aaG (wrap64 (oC + 1)) aH aD) = some r:=by first | (rw [Na];with_reducible exact H) | (have H2_:=(Option.bind_some _ _).symm.trans H;rw [Na];with_reducible exact H2_) | (have H2_:=(Option.bind_some _ _).symm.trans H;with_reducible exact H2_) | with_reducible exact H | (rw [Na];exact H) | exact H
        have MV:=zA Na
        clear Na
        have H':=zA H
        clear H
        have qO : wr.cell? ⟨Fh,0,none⟩ = some (.int .i64 aH):=(dH rA.out 0).trans rfl
        have sD : wr.cell? ⟨Fh,1,none⟩ = some (.slice bM aD.length bJ):=(dH rA.out 1).trans rfl
        have qP:=kH rA.out 0
        have sF:=kH rA.out 1
        obtain ⟨azi,ac7,_,ac8,_⟩:=info_parts lh
        obtain ⟨A13,atI,akT,akU⟩:=Ke (P:=Try.prog) (Value.int .i64) 0 24 2 .i64 .i64 Try.underlying24 ac7 ac8 bM bJ aD oC (wrap64 (oC + a1)) (of_decide_eq_true (by first | (with_reducible assumption) | assumption)) (by first | omega | exact of_decide_eq_true (by first | (with_reducible assumption) | assumption)) (of_decide_eq_true (by first | (with_reducible assumption) | assumption)) gG.out
        have akV:=zA (Kd.yX (h1:=fun _=>rfl) (akT _ (Kd.uX fP.out)))
        have akW:=zA akU
        clear akT akU ac7 ac8
        go_wp2_with (first | ((with_reducible refine ag (f:=50) rfl ?_);refine zk (some 21) rfl rfl Try.func50 (by kernel_rfl) rfl #[.slice A13 ((aD.take ((wrap64 (oC + a1)) : Int).toNat).drop (oC : Int).toNat).length (bJ - oC.toNat)] rfl (by (try simp only [la,lb,lc]);first | done | (rw [show ((aD.take ((wrap64 (oC + a1)) : Int).toNat).drop (oC : Int).toNat).length = ((wrap64 (oC + a1)).toNat - oC.toNat) from (by rw [List.length_drop,List.length_take];have h_ : ((wrap64 (oC + a1)) : Int) ≤ (aD.length : Int):=of_decide_eq_true (by first | (with_reducible assumption) | assumption);omega)] <;> rfl) | rfl | (simp only [ld,le];rfl)) ?_;(with_reducible refine (jX.calls _ _ ((aD.take ((wrap64 (oC + a1)) : Int).toNat).drop (oC : Int).toNat) t138 _ ?side1 ?side2 A10.out).mono ?_);(case side1=>exact uC ((Kd.aW akV.out HB.out)));(case side2=>exact akW.out);rintro e w14 ⟨v139,rfl,ho0,hb⟩;refine ⟨_,rfl,?_⟩;have n0_:=zA (Kd.UH (by (with_reducible repeat (first | apply Kd.FL | apply Kd.FM | apply Kd.J4));exact iF.out) (Kd.aG ho0) hb);have n1_:=zA (Kd.aX ho0 (af (uH HB.out)));have n2_:=xB rA hb;have n3_:=xH HB hb;clear iF rA HB;have iF:=n0_;have Ha:=n1_;have rA:=n2_;have HB:=n3_;clear n0_ n1_ n2_ n3_;(try clear hb);(try clear hb2);(try clear hk);(try clear hi);(try clear ho0);obtain ⟨aa4,WX,Ug⟩:=Kd.bB Ha.out;subst Ug) | ((with_reducible refine fo (b:=.append) (xs:=#[.tmp 13,.tmp 22]) rfl ?_);at_builtin;refine Kd.UJ (Kd.slice 2 (Kd.int .i64)) (w0:=w) w.heap.size rfl (.tmp 13) (.tmp 22) 65 24 (.slice none 0 0) 24 rfl Try.underlying65 Hy rfl (by decide) (by omega) u5 gV t138 [.slice aa4 t138.length WX] (fun _=>True) (fun k_=>some k_ = (.slice aa4 t138.length WX : Value).ownBlock) rfl rfl ?aP (fun k_ hk_=>((Kd.ah (ok':=fun k_=>((fun _=>True)) k_∧some k_ ≠ (u5 : Value).ownBlock) (Kd.vS (Ha.out) (Kd.QD iF.out) (by decide)) (fun k_ hk=>⟨trivial,hk.2⟩))).1 k_ hk_.symm) ?aF ?aO ?aB ?aS ?aL ?_;(case aP=>exact Kd.aiJ (Kd.ah (Kd.xW rfl (Kd.ah (ok':=fun k_=>((fun _=>True)) k_∧some k_ ≠ (u5 : Value).ownBlock) (Kd.vS (Ha.out) (Kd.QD iF.out) (by decide)) (fun k_ hk=>⟨trivial,hk.2⟩))) (fun _ h_=>h_)));(case aB=>exact (uH HB.out));(case aF=>exact (fun _ _=>trivial));(case aO=>exact (by (with_reducible repeat (first | apply Kd.FL | apply Kd.FM | apply Kd.J4));exact Kd.UG iF.out (fun k_ hk=>⟨trivial,fun e_=>hk.2 e_⟩)));(case aS=>exact (af (uH HB.out)));(case aL=>have:=Wh.out;omega);intro ata w15 ho hb hg hat;rw [← MV.out] at ho;have n0_:=zA (iH (g:=Fh) (o:=.cells #[.int .i64 aH,.slice bM aD.length bJ] 26 (0,0)) (uB rA.out) hg (Kd.aiF iF.out rA.out (by decide)));have n1_:=zA (hb);have n2_:=zA (ho);clear rA HB iF Ha;have rA:=n0_;have HB:=n1_;have MW:=n2_;clear n0_ n1_ n2_ ho hb hg hat))
        go_roundg k1
        case measure=>have:=HK1.out;omega
        case rel=>exact ⟨(aaG),(wrap64 (oC + 1)),(by first | rfl | (simp;done) | (simp [*];done)),H',⟨by have:=HK1.out;omega⟩,⟨by (with_reducible repeat (first | apply Kd.FL | apply Kd.FM | apply Kd.J4));exact MW.out⟩,⟨uB rA.out⟩,⟨uH HB.out⟩⟩
       ·rw [if_neg c11] at H
        exact absurd H (by simp)
      ·rw [if_neg c9] at H
       exact absurd H (by simp)
     ·rw [if_neg c8] at H
      exact absurd H (by simp)
    ·rw [if_neg c7] at H
     exact absurd H (by simp)
   ·rw [if_neg c6] at H
    have oP : decide (oC < a1) = false:=decide_eq_false c6
    clear c6
    replace H:=Option.bind_eq_some_iff.mp H
    obtain ⟨O8,akX,H⟩:=H
    replace H : (some O8) = some r:=H
    have A17:=zA akX
    clear akX
    obtain rfl:=Option.some.inj H
    have Q8 : wr.cell? ⟨Fh,0,none⟩ = some (.int .i64 aH):=(dH rA.out 0).trans rfl
    have Q9 : wr.cell? ⟨Fh,1,none⟩ = some (.slice bM aD.length bJ):=(dH rA.out 1).trans rfl
    have Rc:=kH rA.out 0
    have Re:=kH rA.out 1
    obtain ⟨atJ,akY,aa9⟩:=Kd.ZF iF.out
    subst aa9
    go_wp2_with (first | ((with_reducible refine ag (f:=111) rfl ?_);refine zk (some 27) rfl rfl Try.func111 (by kernel_rfl) rfl #[.int .i64 aH,.slice atJ gV.length akY] rfl (by (try simp only [la,lb,lc]);first | done | rfl | (simp only [ld,le];rfl)) ?_;(with_reducible refine (kr.calls k1 aH _ gV O8 w _ (fun _=>True) ?side1 ?side2 A17.out).mono ?_);(case side1=>exact (uH HB.out));(case side2=>exact (uR (Kd.S_R iF.out)));rintro e w20 ⟨rfl,hb⟩;refine ⟨_,rfl,?_⟩;clear iF rA HB;have HB:=zA hb;clear hb))
    go_ret
    exact ⟨by first | rfl | (simp [gY,ib] <;> rfl) | (simp [*,gY,ib] <;> rfl),uH HB.out⟩
/-! ### je: function 83 -/
def je.l0 : Nat → Int → Int → List Int → Option (Int)
 | 0,_,_,_=>none
 | k + 1,x3,RB,KQ=>if x3 < (wrap64 (Int.tdiv (wrap64 ((KQ.length : Int) + 1)) 2)) then ((gM.f k RB KQ (wrap64 (x3 + 1))).bind fun aba=>(if aba = 0 then (some x3) else (je.l0 k (wrap64 (x3 + 1)) RB KQ))) else (some x3)
def je.f (k : Nat) (aH : Int) (aD : List Int) : Option (Int):=je.l0 k 0 aH aD
theorem je.calls (k : Nat) (aH : Int) (bM : Option Addr) (bJ : Nat) (aD : List Int) (r : Int) (w : World) (hr0_1 : Kd.C (Kd.int .i64) w bM aD.length aD) (jE : aD.length ≤ bJ) (H : je.f k aH aD = some r) :
  Calls Try.prog 83 #[.agg #[.int .i64 aH,.slice bM aD.length bJ]] w fun e w'=>e = .returned (.int .i64 r)∧Below w.heap.size w w':=by
 have uD:=Try.underlying26;have fP:=zA hr0_1;have gG:=zA jE;clear hr0_1 jE;have HB:=zA (Below.refl w.heap.size w);unfold je.f at H;have H':=zA H;clear H;go_enter Try.func83,Try.ntmps83;go_wp2_with (first | ((with_reducible refine aT (N:=1) rfl ?_);refine bx 1 #[.int .i64 aH,.slice bM aD.length bJ] 26 ?_;intro akZ hg w2 hbox hb;have ut:=zA (hbox);have ak0:=gq HB hg;have:=geI ak0;have ak1:=gq HB hg;replace HB:=xH HB hb;have:=geI ak1;clear hb hbox hg));go_loopg [3] k (fun kq v3 w'=>∃ (lv : Int),v3 = .int .i64 lv∧aa (je.l0 kq lv aH aD = some r)∧aa (kq ≤ k)∧aa (w'.heap[akZ]? = some (.cells #[.int .i64 aH,(.slice bM aD.length bJ)] 26 (0,0)))∧aa (Below w.heap.size w w'));(case atStart=>exact ⟨(0),eS,H',⟨Nat.le_refl _⟩,⟨uB ut.out⟩,⟨uH HB.out⟩⟩)
 case round =>
  clear H';(try clear p2);obtain ⟨lv,rfl,HA,HK1,ut,HB⟩:=hrel
  cases gk with
  | zero=>exact absurd HA.out (by simp [je.l0])
  | succ k1 =>
   have H:=HA.out;clear HA;simp only [je.l0] at H;replace H:=gF H;obtain ⟨rH,H⟩|⟨rH,H⟩:=H
   ·obtain rfl:=Option.some.inj H;have tV:=bc ut 0;have tX:=bc ut 1;have tY:=bf ut 0;have tZ:=bf ut 1;go_wp2;go_ret;exact ⟨eX,uH HB.out⟩
   replace H:=bO H;obtain ⟨aba,A4,H⟩:=H;replace H:=gE H;obtain ⟨c5,mq,uP,H⟩|⟨c5,mq,uP,H⟩:=H
   ·have H':=zA H;clear H;have BX:=bc ut 0;have BZ:=bc ut 1;have Ca:=bf ut 0;have Cb:=bf ut 1;go_wp2_with (first | (go_at_call 100;(with_reducible refine (gM.calls k1 aH _ _ aD (wrap64 (lv + 1)) aba _ ?side1 ?side2 A4.out).mono ?_);(case side1=>exact uC ((Kd.aW fP.out HB.out)));(case side2=>exact gG.out);rintro e w9 ⟨rfl,hb⟩;replace ut:=xB ut hb;replace HB:=xH HB hb;(try clear hb)));go_roundg k1;(case measure=>have:=HK1.out;omega);(case rel=>exact ⟨(wrap64 (lv + 1)),eS,H',⟨by have:=HK1.out;omega⟩,⟨uB ut.out⟩,⟨uH HB.out⟩⟩)
   clear c5;obtain rfl:=Option.some.inj H;have Xb:=bc ut 0;have Xc:=bc ut 1;have Xd:=bf ut 0;have Xe:=bf ut 1;go_wp2_with (first | (go_at_call 100;(with_reducible refine (gM.calls k1 aH _ _ aD (wrap64 (lv + 1)) aba _ ?side1 ?side2 A4.out).mono ?_);(case side1=>exact uC ((Kd.aW fP.out HB.out)));(case side2=>exact gG.out);rintro e w7 ⟨rfl,hb⟩;replace ut:=xB ut hb;replace HB:=xH HB hb;(try clear hb)));go_ret;exact ⟨eX,uH HB.out⟩
/-! ### jR: function 65 -/
def jR.f (k : Nat) (aH : Int) (aD : List Int) (a1 : Int) : Option (Bool):=if (aD.length : Int) ≥ (wrap64 (2 * a1)) then ((je.f k aH aD).bind fun afQ=>(some (decide (afQ ≥ a1)))) else (some false)
theorem jR.calls (k : Nat) (aH : Int) (bM : Option Addr) (bJ : Nat) (aD : List Int) (a1 : Int) (r : Bool) (w : World) (hr0_1 : Kd.C (Kd.int .i64) w bM aD.length aD) (jE : aD.length ≤ bJ) (H : jR.f k aH aD a1 = some r) :
  Calls Try.prog 65 #[.agg #[.int .i64 aH,.slice bM aD.length bJ],.int .i64 a1] w fun e w'=>e = .returned (.bool r)∧Below w.heap.size w w':=by
 have uD:=Try.underlying26;have fP:=zA hr0_1;have gG:=zA jE;clear hr0_1 jE;have HB:=zA (Below.refl w.heap.size w);unfold jR.f at H;replace H:=gI H;obtain ⟨c3,H⟩|⟨c3,H⟩:=H
 ·have rH : decide ((wrap64 (2 * a1)) ≤ (aD.length : Int)) = false:=decide_eq_false c3;clear c3;obtain rfl:=Option.some.inj H;go_enter Try.func65,Try.ntmps65;go_wp2_with (first | ((with_reducible refine aT (N:=2) rfl ?_);refine bx 2 #[.int .i64 aH,.slice bM aD.length bJ] 26 ?_;intro ak2 hg w8 hbox hb;have Ap:=zA (hbox);have Xf:=gq HB hg;have:=geI Xf;have Xg:=gq HB hg;replace HB:=xH HB hb;have:=geI Xg;clear hb hbox hg;have y8:=bc Ap 0;have y9:=bc Ap 1;have zZ:=bf Ap 0;have za:=bf Ap 1));go_ret;exact ⟨eX,uH HB.out⟩
 have rH : decide ((wrap64 (2 * a1)) ≤ (aD.length : Int)) = true:=decide_eq_true c3;clear c3;replace H:=bO H;obtain ⟨afQ,A4,H⟩:=H;obtain rfl:=Option.some.inj H;go_enter Try.func65,Try.ntmps65;go_wp2_with (first | ((with_reducible refine aT (N:=2) rfl ?_);refine bx 2 #[.int .i64 aH,.slice bM aD.length bJ] 26 ?_;intro ak2 hg w5 hbox hb;have Ap:=zA (hbox);have Xf:=gq HB hg;have:=geI Xf;have Xg:=gq HB hg;replace HB:=xH HB hb;have:=geI Xg;clear hb hbox hg;have Xb:=bc Ap 0;have Xc:=bc Ap 1;have Xd:=bf Ap 0;have Xe:=bf Ap 1) | (go_at_call 83;(with_reducible refine (je.calls k aH _ _ aD afQ _ ?side1 ?side2 A4.out).mono ?_);(case side1=>exact uC ((Kd.aW fP.out HB.out)));(case side2=>exact gG.out);rintro e w7 ⟨rfl,hb⟩;replace Ap:=xB Ap hb;replace HB:=xH HB hb;(try clear hb)));go_ret;exact ⟨eX,uH HB.out⟩
/-! ### aI: function 24 -/
mutual
def aI.j1 : Nat → List Int → Int → List Int → Option (List Int × Int)
 | 0,_,_,_=>none
 | k + 1,x1,rW,wh=>if 0 ≤ (x1.length : Int) then (if ((x1.length : Int) : Int).toNat ≤ 35184372088832 then ((some (List.replicate ((x1.length : Int) : Int).toNat 0 : List Int)).bind fun RD=>(if (x1.length : Int) = 0 then (some (RD,0)) else ((ek.f k rW wh (wrap64 ((x1.length : Int) - 1))).bind fun Bv=>(aI.l0 k x1 RD Bv rW wh)))) else (none)) else (none)
def aI.l0 : Nat → List Int → List Int → List (List Int) → Int → List Int → Option (List Int × Int)
 | 0,_,_,_,_,_=>none
 | k + 1,x1,x6,x7,rW,wh=>if (x1.length : Int) > 0 then (if 0 ≤ (wrap64 ((x1.length : Int) - 1)) then (if (wrap64 ((x1.length : Int) - 1)) < (x1.length : Int) then (if (wrap64 ((x1.length : Int) - 1)) < (x6.length : Int) then (if (wrap64 ((x1.length : Int) - 1)) < (x7.length : Int) then ((jq.f rW (wrap64 (-(rd x1 (wrap64 ((x1.length : Int) - 1)))))).bind fun Nb=>((dF.f k rW x1 (gW x7 (wrap64 ((x1.length : Int) - 1))) Nb).bind fun RF=>(aI.l0 k RF (x6.set ((wrap64 ((x1.length : Int) - 1)) : Int).toNat (rd x1 (wrap64 ((x1.length : Int) - 1)))) x7 rW wh))) else (none)) else (none)) else (none)) else (none)) else (some (x6,0))
def aI.j0 : Nat → List Int → Bool → Int → List Int → Option (List Int × Int)
 | 0,_,_,_,_=>none
 | k + 1,x1,x9,rW,wh=>if x9 = true then (some (([] : List Int),1)) else (if (x1.length : Int) > 12 then (some (([] : List Int),2)) else (if (x1.length : Int) > 0 then ((jR.f k rW wh (wrap64 ((x1.length : Int) - 1))).bind fun ac9=>(if ac9 = true then (aI.j1 k x1 rW wh) else (some (([] : List Int),5)))) else (aI.j1 k x1 rW wh)))
end
def aI.f (k : Nat) (aH : Int) (aD : List Int) (l1 : List Int) : Option (List Int × Int):=(kI.f k aH aD).bind fun ada=>(if ada = true then ((jB.f k aH l1).bind fun RG=>(aI.j0 k l1 (!RG) aH aD)) else (aI.j0 k l1 true aH aD))
def aI.T14 : Bool × List (List Nat × List Nat):=(true,[([],[]),([0],[0]),([],[]),([],[]),([],[]),([3,4],[3,4]),([5],[5]),([],[]),([7],[7]),([],[]),([],[]),([9,10],[9,10]),([11],[11]),([12],[12]),([8,13],[8,13]),([1,2,6,14,14],[1,2,6,14]),([15,15,0,1,2,3,4,5,6,7,8,9,10,11,12,13,14,15],[2,9,15])])
def aI.B14 : List Nat:=[0,1,0,0,0,24,56,0,128,0,0,1536,3584,7680,16256,32767,65535]
theorem aI.Xh : mf .any (opsOf Try.f24 14) = aI.T14:=by kernel_rfl
theorem aI.PH : jP aI.T14.2 aI.B14 = true:=by kernel_rfl
theorem aI.calls (k : Nat) (aH : Int) (bM : Option Addr) (bJ : Nat) (aD : List Int) (P1_ : Nat → Prop) (A1 : Option Addr) (c1 : Nat) (l1 : List Int) (r1 : List Int) (r2 : Int) (w : World) (hr0_1 : Kd.C (Kd.int .i64) w bM aD.length aD) (jE : aD.length ≤ bJ) (hs1 : Kd.V (Kd.int .i64) 2 w w.heap.size (fun k_=>P1_ k_) (.slice A1 l1.length c1) l1) (H : aI.f k aH aD l1 = some (r1,r2)) :
  Calls Try.prog 24 #[.agg #[.int .i64 aH,.slice bM aD.length bJ],.slice A1 l1.length c1] w fun e w'=>∃ v0_ : Value,e = .returned (.tuple #[v0_,.int .i64 r2])∧Kd.R (Kd.int .i64) 2 w' w.heap.size (fun k_=>(w.heap.size ≤ k_)) v0_ r1∧Below w.heap.size w w':=by
 have uD:=Try.underlying26;have fP:=zA hr0_1;have gG:=zA jE;clear hr0_1 jE;have HO1:=zA (show Kd.V (Kd.int .i64) 2 w w.heap.size (fun k_=>(P1_ k_ ∨ w.heap.size ≤ k_)) (.slice A1 l1.length c1) l1 from Kd.fD hs1 (fun k_ hk=>.inl hk));have HB:=zA (Below.refl w.heap.size w);unfold aI.f at H;have HC3:=zA H;clear H;go_enter Try.func24,Try.ntmps24;go_upto_block 0 with (first | ((with_reducible refine aT (N:=2) rfl ?_);(try (refine lq (by rfl) ?_;dsimp only));refine bx 2 #[.int .i64 aH,.slice bM aD.length bJ] 26 ?_;intro sP hg w4 hbox hb;replace HO1:=zA (Kd.jw (Kd.mZ (uV HO1.out) sP (Nat.le_of_eq hg.symm)) hb);have gz:=zA (hbox);have afR:=gq HB hg;have:=geI afR;have afS:=gq HB hg;replace HB:=xH HB hb;have:=geI afS;clear hb hbox hg));(try simp only [Act.put,ls,lz,ln]);go_cut [] (fun wc=>∃ (kq : Nat),aa (aI.j1 kq l1 aH aD = some (r1,r2))∧aa (kq ≤ k)∧aa (Kd.V (Kd.int .i64) 2 wc w.heap.size (fun k_=>(P1_ k_ ∨ w.heap.size ≤ k_)∧k_ ≠ sP) (.slice A1 l1.length c1) l1)∧aa (wc.heap[sP]? = some (.cells #[.int .i64 aH,(.slice bM aD.length bJ)] 26 (0,0)))∧aa (Below w.heap.size w wc))
 case first =>
  have H:=HC3.out;clear HC3;have HC5:=zA H;clear H;go_upto_region 1 with (fail);go_cut [9] (fun v9 wc=>∃ (kq : Nat) (afT : Bool),v9 = .bool afT∧aa (aI.j0 kq l1 afT aH aD = some (r1,r2))∧aa (kq ≤ k)∧aa (Kd.V (Kd.int .i64) 2 wc w.heap.size (fun k_=>(P1_ k_ ∨ w.heap.size ≤ k_)∧k_ ≠ sP) (.slice A1 l1.length c1) l1)∧aa (wc.heap[sP]? = some (.cells #[.int .i64 aH,(.slice bM aD.length bJ)] 26 (0,0)))∧aa (Below w.heap.size w wc))
  case first =>
   have H:=HC5.out;clear HC5;replace H:=bO H;obtain ⟨ada,A6,H⟩:=H;replace H:=gB H;obtain ⟨rfl,H⟩|⟨rfl,H⟩:=H
   ·replace H:=bO H;obtain ⟨RG,A8,H⟩:=H;have H':=zA H;clear H;have y8:=bc gz 0;have y9:=bc gz 1;have zZ:=bf gz 0;have za:=bf gz 1;go_wp2_with (first | ((with_reducible refine ag (f:=42) rfl ?_);refine gL (some 11) Try.func42 #[.agg #[.int .i64 aH,.slice bM aD.length bJ]] ?_;(with_reducible refine (kI.calls k aH _ _ aD true _ ?side1 ?side2 A6.out).mono ?_);(case side1=>exact uC ((Kd.aW fP.out HB.out)));(case side2=>exact gG.out);rintro e w10 ⟨rfl,hb⟩;refine ⟨_,rfl,?_⟩;replace HO1:=zA (Kd.jw (uV HO1.out) hb);replace gz:=xB gz hb;replace HB:=xH HB hb;(try clear hb);have zn:=bc gz 0;have Dl:=bc gz 1;have zo:=bf gz 0;have Dm:=bf gz 1) | (go_at_call 64;(with_reducible refine (jB.calls k aH _ _ l1 RG _ ?side1 ?side2 A8.out).mono ?_);(case side1=>exact uC ((Kd.iJ HO1.out).2.2));(case side2=>exact (Kd.iJ HO1.out).2.1);rintro e w' ⟨rfl,⟨nd,rfl⟩⟩));go_meet;(case rel=>exact ⟨_,(!RG),eS,H',⟨by first | omega | exact Nat.le_refl _⟩,⟨uV HO1.out⟩,⟨uB gz.out⟩,⟨uH HB.out⟩⟩)
   ·have H':=zA H;clear H;have qO:=bc gz 0;have sD:=bc gz 1;have qP:=bf gz 0;have sF:=bf gz 1;go_wp2_with (first | ((with_reducible refine ag (f:=42) rfl ?_);refine gL (some 11) Try.func42 #[.agg #[.int .i64 aH,.slice bM aD.length bJ]] ?_;(with_reducible refine (kI.calls k aH _ _ aD false _ ?side1 ?side2 A6.out).mono ?_);(case side1=>exact uC ((Kd.aW fP.out HB.out)));(case side2=>exact gG.out);rintro e w13 ⟨rfl,hb⟩;refine ⟨_,rfl,?_⟩;replace HO1:=zA (Kd.jw (uV HO1.out) hb);replace gz:=xB gz hb;replace HB:=xH HB hb;(try clear hb)));go_meet;(case rel=>exact ⟨_,(true),eS,H',⟨by first | omega | exact Nat.le_refl _⟩,⟨uV HO1.out⟩,⟨uB gz.out⟩,⟨uH HB.out⟩⟩)
  case rest =>
   clear HC5;(try clear c1);(try clear c2);(try clear p2);(try clear c4);(try clear c7);(try clear zn);(try clear Dl);(try clear qO);(try clear sD);(try clear y8);(try clear y9);(try clear zo);(try clear Dm);(try clear qP);(try clear sF);(try clear zZ);(try clear za);obtain ⟨kq,afT,rfl,HA,HJ4,nS,gz,HB⟩:=hcut
   cases kq with
   | zero=>exact absurd HA.out (by simp [aI.j0])
   | succ kj4 =>
    have H:=HA.out;clear HA;simp only [aI.j0] at H;replace H:=gB H;obtain ⟨rfl,H⟩|⟨rfl,H⟩:=H
    ·simp only [Option.some.injEq,Prod.mk.injEq] at H;obtain ⟨rfl,rfl⟩:=H;go_wp2;go_ret2;exact ⟨_,eX,by first | exact Kd.nE _ _ _ _ _ | exact Kd.wH _ _ _ _ _ | exact Kd.qz _ _ _ _ _ | exact Kd.rq _ _ _ _ _ | exact Kd.ru _ _ _ _ _,uH HB.out⟩
    ·replace H:=gI H;obtain ⟨c15,H⟩|⟨c15,H⟩:=H
     ·have yl : decide (12 < (l1.length : Int)) = false:=decide_eq_false c15;have JI : decide (12 < l1.length) = false:=decide_eq_false (by omega);clear c15;replace H:=gI H;obtain ⟨c16,H⟩|⟨c16,H⟩:=H
      ·have Bw : decide (0 < (l1.length : Int)) = false:=decide_eq_false c16;have RH : decide (0 < l1.length) = false:=decide_eq_false (by omega);clear c16;have H':=zA H;clear H;go_wp2;go_meet;(case rel=>exact ⟨_,H',⟨by have:=HJ4.out;first | omega | exact Nat.le_refl _⟩,⟨uV nS.out⟩,⟨uB gz.out⟩,⟨uH HB.out⟩⟩)
      have Bw : decide (0 < (l1.length : Int)) = true:=decide_eq_true c16;have RH : decide (0 < l1.length) = true:=decide_eq_true (by omega);clear c16;replace H:=bO H;obtain ⟨ac9,A17,H⟩:=H;replace H:=gB H;obtain ⟨rfl,H⟩|⟨rfl,H⟩:=H
      ·have H':=zA H;clear H;have Bb:=bc gz 0;have Dn:=bc gz 1;have Bc:=bf gz 0;have Dp:=bf gz 1;go_wp2_with (first | (go_at_call 65;(with_reducible refine (jR.calls kj4 aH _ _ aD (wrap64 ((l1.length : Int) - 1)) true _ ?side1 ?side2 A17.out).mono ?_);(case side1=>exact uC ((Kd.aW fP.out HB.out)));(case side2=>exact gG.out);rintro e w20 ⟨rfl,hb⟩;replace nS:=zA (Kd.jw (uV nS.out) hb);replace gz:=xB gz hb;replace HB:=xH HB hb;(try clear hb)));go_meet;(case rel=>exact ⟨_,H',⟨by have:=HJ4.out;first | omega | exact Nat.le_refl _⟩,⟨uV nS.out⟩,⟨uB gz.out⟩,⟨uH HB.out⟩⟩)
      ·simp only [Option.some.injEq,Prod.mk.injEq] at H;obtain ⟨rfl,rfl⟩:=H;have Az:=bc gz 0;have AA:=bc gz 1;have AB:=bf gz 0;have AC:=bf gz 1;go_wp2_with (first | (go_at_call 65;(with_reducible refine (jR.calls kj4 aH _ _ aD (wrap64 ((l1.length : Int) - 1)) false _ ?side1 ?side2 A17.out).mono ?_);(case side1=>exact uC ((Kd.aW fP.out HB.out)));(case side2=>exact gG.out);rintro e w22 ⟨rfl,hb⟩;replace nS:=zA (Kd.jw (uV nS.out) hb);replace gz:=xB gz hb;replace HB:=xH HB hb;(try clear hb)));go_ret2;exact ⟨_,eX,by first | exact Kd.nE _ _ _ _ _ | exact Kd.wH _ _ _ _ _ | exact Kd.qz _ _ _ _ _ | exact Kd.rq _ _ _ _ _ | exact Kd.ru _ _ _ _ _,uH HB.out⟩
     have yl : decide (12 < (l1.length : Int)) = true:=decide_eq_true c15;have JI : decide (12 < l1.length) = true:=decide_eq_true (by omega);clear c15;simp only [Option.some.injEq,Prod.mk.injEq] at H;obtain ⟨rfl,rfl⟩:=H;go_wp2;go_ret2;exact ⟨_,eX,by first | exact Kd.nE _ _ _ _ _ | exact Kd.wH _ _ _ _ _ | exact Kd.qz _ _ _ _ _ | exact Kd.rq _ _ _ _ _ | exact Kd.ru _ _ _ _ _,uH HB.out⟩
 case rest =>
  clear HC3;(try clear c1);(try clear c2);(try clear p2);(try clear c4);(try clear p6);(try clear c7);(try clear c14);(try clear c15);(try clear yl);(try clear JI);(try clear c16);(try clear Bw);(try clear RH);(try clear c18);(try clear zn);(try clear Dl);(try clear qO);(try clear sD);(try clear Bb);(try clear Dn);(try clear Az);(try clear AA);(try clear y8);(try clear y9);(try clear zo);(try clear Dm);(try clear qP);(try clear sF);(try clear Bc);(try clear Dp);(try clear AB);(try clear AC);(try clear zZ);(try clear za);(try clear p2);obtain ⟨kq,HA,HJ2,nS,gz,HB⟩:=hcut
  cases kq with
  | zero=>exact absurd HA.out (by simp [aI.j1])
  | succ kj2 =>
   have H:=HA.out;clear HA;simp only [aI.j1] at H;replace H:=gN H;obtain ⟨c23,H⟩:=H;have Nc:=eq_true c23;have RI : decide (0 ≤ (l1.length : Int)) = true:=decide_eq_true c23;clear c23;replace H:=gN H;obtain ⟨c24,H⟩:=H;have ak3:=eq_true c24;have ak4 : decide (((l1.length : Int) : Int).toNat ≤ 35184372088832) = true:=decide_eq_true c24;clear c24;replace H:=bS H;obtain ⟨RD,KR,H⟩:=H;replace H:=gE H;obtain ⟨c25,adb,adc,H⟩|⟨c25,adb,adc,H⟩:=H
   ·have ak5 : ¬ (l1 = []):=fun h_=>c25 (by rw [h_];rfl);replace H:=bO H;obtain ⟨Bv,A28,H⟩:=H;have H':=zA H;clear H;go_wp2_with (first | ((with_reducible refine aT (N:=38) rfl ?_);(try (refine lq (by rfl) ?_;dsimp only));refine Kd.BR (Kd.int .i64) _ 2 rfl (N:=38) rfl 24 _ _ rfl (l1.length : Int) rfl rfl Try.underlying24 (.int .i64 0) 8 lh rfl (by decide) (by omega) 0 (ok:=fun _=>True) (okp:=fun _=>True) rfl (fun _ hk=>hk) trivial (of_decide_eq_true (by first | (with_reducible assumption) | assumption)) (Nat.le_trans (Nat.mul_le_mul_right _ (of_decide_eq_true (by first | (with_reducible assumption) | assumption) : (l1.length : Int).toNat ≤ 35184372088832)) (by omega)) (Below.refl _ _) (Nat.le_refl _) ?_;intro Nf w29 Uh hb hg_ hnew_;clear hg_ hnew_;(first | rw [← KR.out] at Uh | (simp only [Int.reduceToNat] at Uh;rw [← KR.out] at Uh));replace nS:=zA (Kd.fT (uV nS.out) (Kd.aG Uh) hb);have EF:=zA (Kd.aX (Kd.jg (M:=fun k_=>(w.heap.size ≤ k_)) Uh (af (uH HB.out)) (fun k_ h_=>h_)) (af (uH HB.out)));replace gz:=xB gz hb;replace HB:=xH HB hb;clear hb Uh;have F8:=bc gz 0;have KS:=bc gz 1;have F9:=bf gz 0;have KT:=bf gz 1) | ((with_reducible refine ag (f:=66) rfl ?_);refine gL (some 47) Try.func66 #[.agg #[.int .i64 aH,.slice bM aD.length bJ],.int .i64 (wrap64 ((l1.length : Int) - 1))] ?_;(with_reducible refine (ek.calls kj2 aH _ _ aD (wrap64 ((l1.length : Int) - 1)) Bv _ ?side1 ?side2 A28.out).mono ?_);(case side1=>exact uC ((Kd.aW fP.out HB.out)));(case side2=>exact gG.out);rintro e w32 ⟨Xi,rfl,ho0,hb⟩;refine ⟨_,rfl,?_⟩;replace nS:=zA (Kd.fT (uV nS.out) (Kd.qA ho0) hb);have afU:=zA (Kd.nu (Kd.iZ (ok':=fun k_=>(P1_ k_ ∨ w.heap.size ≤ k_)∧ax k_ Nf∧k_ ≠ sP) ho0 (fun k_ hk_=>⟨(.inr (Nat.le_trans (af (uH HB.out)) hk_)),(Kd.fresh' (Kd.ku (uR EF.out)) k_ hk_),(Kd.iK (g:=sP) (o:=.cells #[.int .i64 aH,.slice bM aD.length bJ] 26 (0,0)) (uB gz.out) k_ hk_)⟩)) (af (uH HB.out)));replace EF:=xR EF hb;replace gz:=xB gz hb;replace HB:=xH HB hb;(try clear hb);(try clear hk);(try clear ho0)));go_loopg [1] kj2 (fun kq v1 w'=>∃ (zq : List Int) (Bn : List Int),aa (aI.l0 kq zq Bn Bv aH aD = some (r1,r2))∧aa (kq ≤ kj2)∧aa (Kd.V (Kd.int .i64) 2 w' w.heap.size (fun k_=>(P1_ k_ ∨ w.heap.size ≤ k_)∧ax k_ Nf∧ax k_ Xi∧k_ ≠ sP) v1 zq)∧aa (Kd.R (Kd.int .i64) 2 w' w.heap.size (fun k_=>(w.heap.size ≤ k_)) Nf Bn)∧aa (Kd.N (Kd.slice 2 (Kd.int .i64)) 24 w' w.heap.size (fun k_=>(P1_ k_ ∨ w.heap.size ≤ k_)∧ax k_ Nf∧k_ ≠ sP) Xi Bv)∧aa (w'.heap[sP]? = some (.cells #[.int .i64 aH,(.slice bM aD.length bJ)] 26 (0,0)))∧aa (Below w.heap.size w w'));(case atStart=>exact ⟨(l1),(RD),H',⟨Nat.le_refl _⟩,⟨by (with_reducible repeat (first | apply Kd.jb | apply Kd.jc | apply Kd.iX));exact Kd.fD nS.out (fun _ ⟨⟨⟨a,d⟩,b⟩,c⟩=>⟨a,b,c,d⟩)⟩,⟨uR (Kd.ah EF.out (fun _ hk=>hk.1))⟩,⟨uN afU.out⟩,⟨uB gz.out⟩,⟨uH HB.out⟩⟩)
    case round =>
     clear H';(try clear c1);(try clear c2);(try clear p2);(try clear c4);(try clear c6);(try clear p6);(try clear c7);(try clear c14);(try clear c15);(try clear yl);(try clear JI);(try clear c16);(try clear Bw);(try clear RH);(try clear c18);(try clear c23);(try clear Nc);(try clear RI);(try clear c24);(try clear ak3);(try clear ak4);(try clear c25);(try clear adb);(try clear adc);(try clear ak5);(try clear zn);(try clear Dl);(try clear qO);(try clear sD);(try clear Bb);(try clear Dn);(try clear Az);(try clear AA);(try clear F8);(try clear KS);(try clear y8);(try clear y9);(try clear zo);(try clear Dm);(try clear qP);(try clear sF);(try clear Bc);(try clear Dp);(try clear AB);(try clear AC);(try clear F9);(try clear KT);(try clear zZ);(try clear za);(try clear p2);(try clear p6);obtain ⟨zq,Bn,HA,HK2,nS,wX,dX,gz,HB⟩:=hrel
     cases gk with
     | zero=>exact absurd HA.out (by simp [aI.l0])
     | succ k2 =>
      have H:=HA.out;clear HA;simp only [aI.l0] at H;replace H:=gI H;obtain ⟨c33,H⟩|⟨c33,H⟩:=H
      ·have Xj : decide (0 < (zq.length : Int)) = false:=decide_eq_false c33;have ak6 : decide (0 < zq.length) = false:=decide_eq_false (by omega);clear c33;simp only [Option.some.injEq,Prod.mk.injEq] at H;obtain ⟨rfl,rfl⟩:=H;obtain ⟨azj,azk,rfl⟩:=Kd.De nS.out;go_wp2;go_ret2;exact ⟨_,eX,uR wX.out,uH HB.out⟩
      have Xj : decide (0 < (zq.length : Int)) = true:=decide_eq_true c33;have ak6 : decide (0 < zq.length) = true:=decide_eq_true (by omega);clear c33;obtain ⟨uu,Ng⟩ : ∃ j_ : Int,(wrap64 ((zq.length : Int) - 1)) = j_:=⟨_,rfl⟩;(first | rw [Ng] at H | simp only [Ng] at H);have atK : (IntKind.i64.wrap ((zq.length : Int) - 1)) = uu:=(jW _).trans Ng;replace H:=gD H;obtain ⟨axp,H⟩:=H;replace H:=gD H;obtain ⟨CG,H⟩:=H;replace H:=gD H;obtain ⟨axq,H⟩:=H;obtain ⟨ade,Xk⟩:=eY (Bn.set ((uu) : Int).toNat (rd zq (uu)) : List Int);(try rw [←Xk.out] at H);replace H:=gD H;obtain ⟨axr,H⟩:=H;replace H:=bO H;obtain ⟨Nb,A40,H⟩:=H;replace H:=bO H;obtain ⟨RF,A41,H⟩:=H;have H':=zA H;clear H;obtain ⟨azl,atL,rfl⟩:=Kd.De nS.out;have Xl : 0 ≤ ((uu) : Int):=oD;have Xm : (uu) < (zq.length : Int):=oD;obtain ⟨PI,ak7,ak8⟩:=Kd.ic (Kd.iJ nS.out).2.2 (uu) Xl Xm;cases ak7;replace Xl:=eq_true Xl;replace Xm:=eq_true Xm;have p38 : 0 ≤ ((uu) : Int):=oD;have q38 : ((uu) : Int) < ((Bn.length : Int) : Int):=oD;obtain ⟨PK,qw,Xn,ak9,atM,azm,ala⟩:=Kd.yB wX.out (by omega);(first | cases Xn | (injection Xn with ea_ en_ ec_;(first | subst ea_ | (injection ea_ with ea_;subst ea_));subst ec_;clear en_));have alb:=zA ak9;have:=geI alb;have azn:=zA ala;clear ak9 atM ala;obtain ⟨atN,atO⟩:=Kd.uj 0 wX.out ((uu) : Int) p38 q38;replace p38:=eq_true p38;replace q38:=eq_true q38;have afV:=Kd.GU wX.out ((uu) : Int) (rd zq (uu));(try go_wp2_with (first | ((with_reducible refine qB (t:=2) (p:=60) rfl ?_);refine pq (t:=2) (p:=60) (v:=?atP) (w1:=(wr.setCell ⟨PK,((uu) : Int).toNat,none⟩ (.int .i64 (rd zq (uu))))) ?hg ?ho ?hn ?hr ?_;(case ho=>rfl);(case hg=>rfl);(case hn=>rfl);(case hr=>first | (go_simp;done) | (go_simp;rfl));intro w44 hw;have hg : wr.grownBy w44 (some PK):=(by rw [hw];exact afV.2);have hp_ : Kd.R (Kd.int .i64) 2 w44 w.heap.size (fun k_=>(w.heap.size ≤ k_)) (.slice (some ⟨PK,0,none⟩) Bn.length qw) ade:=(by rw [hw,Xk.out];exact afV.1);clear afV;replace nS:=zA (Kd.lX (v:=(.slice (some ⟨PK,0,none⟩) Bn.length qw)) (v1:=(.slice (some ⟨PK,0,none⟩) Bn.length qw)) (ok:=(fun k_=>(P1_ k_ ∨ w.heap.size ≤ k_)∧ax k_ Xi∧k_ ≠ sP)) (by (with_reducible repeat (first | apply Kd.jb | apply Kd.jc | apply Kd.iX));exact Kd.fD nS.out (fun _ ⟨a,d,b,c⟩=>⟨⟨a,b,c⟩,d⟩)) hg (.inl rfl));replace dX:=zA (Kd.WQ (v:=(.slice (some ⟨PK,0,none⟩) Bn.length qw)) (v1:=(.slice (some ⟨PK,0,none⟩) Bn.length qw)) (ok:=(fun k_=>(P1_ k_ ∨ w.heap.size ≤ k_)∧k_ ≠ sP)) (by (with_reducible repeat (first | apply Kd.kZ | apply Kd.lg | apply Kd.kR));exact Kd.iZ dX.out (fun _ ⟨a,c,b⟩=>⟨⟨a,b⟩,c⟩)) hg (.inl rfl));replace gz:=zA (iH (g:=sP) (o:=.cells #[.int .i64 aH,.slice bM aD.length bJ] 26 (0,0)) (uB gz.out) hg (Kd.rC wX.out gz.out (by decide)));replace wX:=zA (hp_);replace HB:=zA ((by rw [hw];exact lC (HB.out) alb.out : Below w.heap.size w w44));clear hg hw hp_)));replace nS:=zA (Kd.iX nS.out);replace wX:=zA (Kd.iV wX.out);replace dX:=zA (Kd.kR dX.out);replace gz:=zA (eD gz.out);replace HB:=zA (aZ HB.out);obtain ⟨abb,abd,abe⟩:=Kd.qN dX.out;(first | subst abe | (injection abe with f1_ f2_ f3_;have f4_:=f1_.symm;have f5_:=f3_.symm;clear f1_ f2_ f3_;subst f4_;subst f5_));have RJ : 0 ≤ ((uu) : Int):=oD;have RL : (uu) < (Bv.length : Int):=oD;obtain ⟨afW,RN,RO,alc,H5,Nh,Nl⟩:=Ao (Kd.kw dX.out).2.2 (uu) RJ RL;cases alc;obtain ⟨atQ,abf,abg,RP⟩:=Kd.Jn dX.out [] (uu) RJ (by first | exact RL | exact of_decide_eq_true (by first | (with_reducible assumption) | assumption) | (have e_:=(Kd.kw dX.out).1;omega));obtain ⟨ald,ale,rfl,H6,H7⟩:=Kd.qa abg;have Dq:=RP 0 _ rfl;rw [Nat.add_zero,show ((Kd.slice 2 (Kd.int .i64))).sz = 1 from rfl,Nat.mul_one] at Dq;replace Dq:=Option.some.inj (Dq.symm.trans H5);injection Dq with hva_ hvn_ hvc_;rw [hva_] at H7;rw [hvc_] at H6;have H8:=zA (show Kd.V (Kd.int .i64) 2 _ w.heap.size _ _ (gW Bv (uu)) from Kd.KH H6 H7);clear hva_ hvn_ hvc_ H7 H6;clear RP abf;have yN:=zA Nl;have Xo:=zA Nh;clear Nl Nh;replace RJ:=eq_true RJ;replace RL:=eq_true RL;have Xp : 0 ≤ ((uu) : Int):=oD;have Xq : (uu) < (zq.length : Int):=oD;obtain ⟨afX,alf,Nn⟩:=Kd.ic (Kd.iJ nS.out).2.2 (uu) Xp Xq;obtain rfl : PI = afX:=(by injection alf);replace Xp:=eq_true Xp;replace Xq:=eq_true Xq;refine kF (n:=17) (S:=fun w'=>w'.cell? ⟨sP,0,none⟩ = some (.int .i64 aH)∧w'.cell? ⟨sP,1,none⟩ = some (.slice bM aD.length bJ)∧w'.cell? (afW.add ((uu)).toNat) = some (.slice RN (gW Bv (uu)).length RO)∧w'.cell? (PI.add ((uu)).toNat) = some (.int .i64 (rd zq (uu)))) (ds:=[]) #[false,false,false,false,false,false,false,false,false,false,false,false,false,false,false,false,false] (by kernel_rfl) rfl rfl ⟨bcu gz 0,bcu gz 1,H5,Nn⟩ (fun hHeld=>?_);refine gX aI.Xh aI.PH (fun HT_ HW_=>?_);generalize w44.drew = w45 at nS wX dX gz HB H8 yN H5 Nn hHeld ⊢;refine pu_ 0 61 (bl 17 1) HT_ ?_;refine pu_ 2 63 (bl 17 5) HT_ ?_;refine pu_ 3 64 (bl 17 13) HT_ ?_;refine pu_ 4 65 (bl 17 29) HT_ ?_;refine pu_ 5 66 (bl 17 61) HT_ ?_;refine pu_ 7 68 (bl 17 189) HT_ ?_;refine pu_ 9 70 (bl 17 701) HT_ ?_;refine pu_ 10 71 (bl 17 1725) HT_ ?_;refine pu_ 11 72 (bl 17 3773) HT_ ?_;refine ta_ 1 62 (bl 17 3775) HT_ HW_ hHeld ?_;refine ta_ 6 67 (bl 17 3839) HT_ HW_ hHeld ?_;refine ta_ 8 69 (bl 17 4095) HT_ HW_ hHeld ?_;refine ta_ 12 73 (bl 17 8191) HT_ HW_ hHeld ?_;refine pu_ 13 74 (bl 17 16383) HT_ ?_;refine on_ 14 (some 75) (bl 17 32767) HT_ (fun K hK=>?_);refine G5 Try.func68 (by kernel_rfl) rfl #[.int .i64 aH,.int .i64 (wrap64 (-(rd zq (uu))))] (by rfl) rfl rfl (by (try simp only [la,lb,lc]);first | done | (simp only [Ng];rfl) | rfl | (simp only [ld,le];rfl)) ?_;(with_reducible refine (jq.calls aH (wrap64 (-(rd zq (uu)))) Nb _ A40.out).mono ?_);rintro e w' ⟨rfl,⟨nd,rfl⟩⟩;refine ⟨_,rfl,?_⟩;refine hK.out _ _ ⟨bcu gz 0,bcu gz 1,hHeld.2.2.1,hHeld.2.2.2⟩ (fun hHeld=>?_);clear hK K;refine no_ 75 ?_;refine on_ 15 (some 76) (bl 17 65535) HT_ (fun K hK=>?_);refine G5 Try.func67 (by kernel_rfl) rfl #[.int .i64 aH,.slice (some PI) zq.length atL,.slice RN (gW Bv (uu)).length RO,.int .i64 Nb] (by rfl) rfl rfl (by (try simp only [la,lb,lc]);first | done | (simp only [Ng];rfl) | rfl | (simp only [ld,le];rfl)) ?_;(with_reducible refine (dF.calls k2 aH _ _ zq _ _ (gW Bv (uu)) Nb RF _ ?side1 ?side2 ?side3 ?side4 A41.out).mono ?_);(case side1=>exact uC ((Kd.iJ nS.out).2.2));(case side2=>exact (Kd.iJ nS.out).2.1);(case side3=>repeat (first | exact (by repeat (first | (with_reducible exact yN.out) | (with_reducible refine Kd.dU ?_ _) | (with_reducible refine Kd.dV ?_ _) | (with_reducible refine Kd.fK ?_) | exact yN.out)) | (with_reducible refine Kd.dU ?_ _) | (with_reducible refine Kd.dV ?_ _) | (with_reducible refine Kd.fK ?_)));(case side4=>exact Xo.out);rintro e w47 ⟨axs,rfl,ho0,hb⟩;have afY:=(hb.cell (World.block_lt_of_cell? _ _ (hHeld.2.2.1))).trans (hHeld.2.2.1);have atS:=(hb.cell (World.block_lt_of_cell? _ _ (hHeld.2.2.2))).trans (hHeld.2.2.2);refine ⟨_,rfl,?_⟩;replace nS:=zA (Kd.fT (uV nS.out) (Kd.aG ho0) hb);replace dX:=zA (Kd.pM (uN dX.out) (Kd.aG ho0) hb);replace H8:=zA (Kd.fT (uV H8.out) (Kd.aG ho0) hb);have afZ:=zA (Kd.aX (nw (Kd.jg (M:=fun k_=>(w.heap.size ≤ k_)) ho0 (af (uH HB.out)) (fun k_ h_=>h_)) (uR wX.out)) (af (uH HB.out)));replace wX:=zA (Kd.aJ (uR wX.out) (Kd.aG ho0) hb);replace gz:=xB gz hb;replace yN:=zA (Kd.aW (by repeat (first | (with_reducible exact yN.out) | (with_reducible refine Kd.dU ?_ _) | (with_reducible refine Kd.dV ?_ _) | (with_reducible refine Kd.fK ?_) | exact yN.out)) hb);replace HB:=xH HB hb;(try clear hb);(try clear ho0);refine hK.out _ _ ⟨bcu gz 0,bcu gz 1,afY,atS⟩ (fun hHeld=>?_);clear hK K;refine no_ 76 ?_;refine pu_ 16 1 (bl 17 131071) HT_ ?_;refine done_ (done_of HT_.out (by kernel_rfl)) ?_;(try go_wp2);go_roundg k2;(case measure=>have:=HJ2.out;have:=HK2.out;omega);(case rel=>exact ⟨(RF),(ade),H',⟨by have:=HJ2.out;have:=HK2.out;omega⟩,⟨Kd.fD (Kd.R_V (uR (Kd.dE (Kd.vS afZ.out (Kd.vJ dX.out) (by decide)) gz.out (by decide)))) (fun k_ hk=>by first | exact ⟨.inr hk.1.1.1.1,⟨hk.1.1.2,⟨hk.1.2,hk.2⟩⟩⟩ | exact .inr (⟨hk.1.1.1.1,⟨hk.1.1.2,⟨hk.1.2,hk.2⟩⟩⟩))⟩,⟨uR (Kd.ah wX.out (fun _ hk=>hk.1))⟩,⟨by (with_reducible repeat (first | apply Kd.kZ | apply Kd.lg | apply Kd.kR));exact Kd.iZ dX.out (fun _ ⟨⟨⟨a,c⟩,b⟩,_⟩=>⟨a,b,c⟩)⟩,⟨uB gz.out⟩,⟨uH HB.out⟩⟩)
   clear c25;simp only [Option.some.injEq,Prod.mk.injEq] at H;obtain ⟨rfl,rfl⟩:=H;go_wp2_with (first | ((with_reducible refine aT (N:=38) rfl ?_);(try (refine lq (by rfl) ?_;dsimp only));refine Kd.BR (Kd.int .i64) _ 2 rfl (N:=38) rfl 24 _ _ rfl (l1.length : Int) rfl rfl Try.underlying24 (.int .i64 0) 8 lh rfl (by decide) (by omega) 0 (ok:=fun _=>True) (okp:=fun _=>True) rfl (fun _ hk=>hk) trivial (of_decide_eq_true (by first | (with_reducible assumption) | assumption)) (Nat.le_trans (Nat.mul_le_mul_right _ (of_decide_eq_true (by first | (with_reducible assumption) | assumption) : (l1.length : Int).toNat ≤ 35184372088832)) (by omega)) (Below.refl _ _) (Nat.le_refl _) ?_;intro Nf w26 Ui hb hg_ hnew_;clear hg_ hnew_;(first | rw [← KR.out] at Ui | (simp only [Int.reduceToNat] at Ui;rw [← KR.out] at Ui));replace nS:=zA (Kd.fT (uV nS.out) (Kd.aG Ui) hb);have EF:=zA (Kd.aX (Kd.jg (M:=fun k_=>(w.heap.size ≤ k_)) Ui (af (uH HB.out)) (fun k_ h_=>h_)) (af (uH HB.out)));replace gz:=xB gz hb;replace HB:=xH HB hb;clear hb Ui));go_ret2;exact ⟨_,eX,uR (Kd.ah EF.out (fun _ hk=>hk.1)),uH HB.out⟩
/-! ### aN: function 28 -/
mutual
def aN.j1 : Nat → List Int → Int → List Int → Option (List Int × Int)
 | 0,_,_,_=>none
 | k + 1,x1,uw,wm=>(some (([] : List Int) : List Int)).bind fun RQ=>(if (x1.length : Int) = 0 then (some (RQ,0)) else ((ek.f k uw wm (wrap64 ((x1.length : Int) - 1))).bind fun Bz=>(aN.l0 k x1 RQ Bz 0 uw wm)))
def aN.l0 : Nat → List Int → List Int → List (List Int) → Int → Int → List Int → Option (List Int × Int)
 | 0,_,_,_,_,_,_=>none
 | k + 1,x1,x6,x7,x8,uw,wm=>if x8 < (x1.length : Int) then (if 0 ≤ x8 then (if x8 < (x7.length : Int) then ((dF.f k uw x6 (gW x7 x8) (rd x1 x8)).bind fun RS=>(aN.l0 k x1 RS x7 (wrap64 (x8 + 1)) uw wm)) else (none)) else (none)) else (some (x6,0))
def aN.j0 : Nat → List Int → Bool → Int → List Int → Option (List Int × Int)
 | 0,_,_,_,_=>none
 | k + 1,x1,x13,uw,wm=>if x13 = true then (some (([] : List Int),2)) else (if (x1.length : Int) > 0 then ((jR.f k uw wm (wrap64 ((x1.length : Int) - 1))).bind fun adf=>(if adf = true then (aN.j1 k x1 uw wm) else (some (([] : List Int),5)))) else (aN.j1 k x1 uw wm))
end
def aN.f (k : Nat) (aH : Int) (aD : List Int) (l1 : List Int) : Option (List Int × Int):=(kI.f k aH aD).bind fun adg=>(if adg = true then (if (l1.length : Int) > 12 then (aN.j0 k l1 true aH aD) else ((dW.f k aH l1).bind fun RU=>(aN.j0 k l1 (!RU) aH aD))) else (some (([] : List Int),1)))
def aN.T14 : Bool × List (List Nat × List Nat):=(true,[([],[]),([0],[0]),([],[]),([],[]),([],[]),([3,4],[3,4]),([5],[5]),([],[]),([],[]),([7,8],[7,8]),([9],[9]),([1,2,6,10],[1,2,6,10]),([11,11,0,1,2,3,4,5,6,7,8,9,10,11],[2,11])])
def aN.B14 : List Nat:=[0,1,0,0,0,24,56,0,0,384,896,2047,4095]
theorem aN.Xh : mf .any (opsOf Try.f28 14) = aN.T14:=by kernel_rfl
theorem aN.PH : jP aN.T14.2 aN.B14 = true:=by kernel_rfl
theorem aN.calls (k : Nat) (aH : Int) (bM : Option Addr) (bJ : Nat) (aD : List Int) (A1 : Option Addr) (c1 : Nat) (l1 : List Int) (r1 : List Int) (r2 : Int) (w : World) (hr0_1 : Kd.C (Kd.int .i64) w bM aD.length aD) (jE : aD.length ≤ bJ) (hr1 : Kd.C (Kd.int .i64) w A1 l1.length l1) (hc1 : l1.length ≤ c1) (H : aN.f k aH aD l1 = some (r1,r2)) :
  Calls Try.prog 28 #[.agg #[.int .i64 aH,.slice bM aD.length bJ],.slice A1 l1.length c1] w fun e w'=>∃ v0_ : Value,e = .returned (.tuple #[v0_,.int .i64 r2])∧Kd.R (Kd.int .i64) 2 w' w.heap.size (fun _=>True) v0_ r1∧Below w.heap.size w w':=by
 have uD:=Try.underlying26;have fP:=zA hr0_1;have gG:=zA jE;clear hr0_1 jE;have HR1:=zA hr1;have HC1:=zA hc1;clear hr1 hc1;have HB:=zA (Below.refl w.heap.size w);unfold aN.f at H;have HC3:=zA H;clear H;go_enter Try.func28,Try.ntmps28;go_upto_block 0 with (first | ((with_reducible refine aT (N:=2) rfl ?_);(try (refine lq (by rfl) ?_;dsimp only));refine bx 2 #[.int .i64 aH,.slice bM aD.length bJ] 26 ?_;intro Aq hg w4 hbox hb;have iG:=zA (hbox);have af0:=gq HB hg;have:=geI af0;have af1:=gq HB hg;replace HB:=xH HB hb;have:=geI af1;clear hb hbox hg));(try simp only [Act.put,ls,lz,ln]);go_cut [] (fun wc=>∃ (kq : Nat),aa (aN.j1 kq l1 aH aD = some (r1,r2))∧aa (kq ≤ k)∧aa (wc.heap[Aq]? = some (.cells #[.int .i64 aH,(.slice bM aD.length bJ)] 26 (0,0)))∧aa (Below w.heap.size w wc))
 case first =>
  have H:=HC3.out;clear HC3;replace H:=bO H;obtain ⟨adg,A5,H⟩:=H;replace H:=gB H;obtain ⟨rfl,H⟩|⟨rfl,H⟩:=H
  ·have HC7:=zA H;clear H;have BX:=bc iG 0;have BZ:=bc iG 1;have Ca:=bf iG 0;have Cb:=bf iG 1;go_upto_region 3 with (first | ((with_reducible refine ag (f:=42) rfl ?_);refine gL (some 11) Try.func42 #[.agg #[.int .i64 aH,.slice bM aD.length bJ]] ?_;(with_reducible refine (kI.calls k aH _ _ aD true _ ?side1 ?side2 A5.out).mono ?_);(case side1=>exact uC ((Kd.aW fP.out HB.out)));(case side2=>exact gG.out);rintro e w9 ⟨rfl,hb⟩;refine ⟨_,rfl,?_⟩;replace iG:=xB iG hb;replace HB:=xH HB hb;(try clear hb)));(try simp only [Act.put,ls,lz,ln]);go_cut [13] (fun v13 wc=>∃ (kq : Nat) (Xr : Bool),v13 = .bool Xr∧aa (aN.j0 kq l1 Xr aH aD = some (r1,r2))∧aa (kq ≤ k)∧aa (wc.heap[Aq]? = some (.cells #[.int .i64 aH,(.slice bM aD.length bJ)] 26 (0,0)))∧aa (Below w.heap.size w wc))
   case first =>
    have H:=HC7.out;clear HC7;replace H:=gI H;obtain ⟨c10,H⟩|⟨c10,H⟩:=H
    ·have qH : decide (12 < (l1.length : Int)) = false:=decide_eq_false c10;have Dr : decide (12 < l1.length) = false:=decide_eq_false (by omega);clear c10;(first | rw [qH] | (simp only [jW,nH];rw [qH]) | skip);replace H:=bO H;obtain ⟨RU,A11,H⟩:=H;have H':=zA H;clear H;have qO:=bc iG 0;have sD:=bc iG 1;have qP:=bf iG 0;have sF:=bf iG 1;go_wp2_with (first | (go_at_call 71;(with_reducible refine (dW.calls k aH _ _ l1 RU _ ?side1 ?side2 A11.out).mono ?_);(case side1=>exact uC ((Kd.aW HR1.out HB.out)));(case side2=>exact HC1.out);rintro e w' ⟨rfl,⟨nd,rfl⟩⟩));go_meet;(case rel=>exact ⟨_,(!RU),eS,H',⟨by first | omega | exact Nat.le_refl _⟩,⟨uB iG.out⟩,⟨uH HB.out⟩⟩)
    have qH : decide (12 < (l1.length : Int)) = true:=decide_eq_true c10;have Dr : decide (12 < l1.length) = true:=decide_eq_true (by omega);clear c10;(first | rw [qH] | (simp only [jW,nH];rw [qH]) | skip);have H':=zA H;clear H;go_wp2;go_meet;(case rel=>exact ⟨_,(true),eS,H',⟨by first | omega | exact Nat.le_refl _⟩,⟨uB iG.out⟩,⟨uH HB.out⟩⟩)
   case rest =>
    clear HC7;(try clear c1);(try clear c2);(try clear p2);(try clear c4);(try clear c6);(try clear c10);(try clear qH);(try clear Dr);(try clear qO);(try clear sD);(try clear BX);(try clear BZ);(try clear qP);(try clear sF);(try clear Ca);(try clear Cb);obtain ⟨kq,Xr,rfl,HA,HJ6,iG,HB⟩:=hcut
    cases kq with
    | zero=>exact absurd HA.out (by simp [aN.j0])
    | succ kj6 =>
     have H:=HA.out;clear HA;simp only [aN.j0] at H;replace H:=gB H;obtain ⟨rfl,H⟩|⟨rfl,H⟩:=H
     ·simp only [Option.some.injEq,Prod.mk.injEq] at H;obtain ⟨rfl,rfl⟩:=H;go_wp2;go_ret2;exact ⟨_,eX,by first | exact Kd.nE _ _ _ _ _ | exact Kd.wH _ _ _ _ _ | exact Kd.qz _ _ _ _ _ | exact Kd.rq _ _ _ _ _ | exact Kd.ru _ _ _ _ _,uH HB.out⟩
     ·replace H:=gI H;obtain ⟨c14,H⟩|⟨c14,H⟩:=H
      ·have xE : decide (0 < (l1.length : Int)) = false:=decide_eq_false c14;have Xt : decide (0 < l1.length) = false:=decide_eq_false (by omega);clear c14;have H':=zA H;clear H;go_wp2;go_meet;(case rel=>exact ⟨_,H',⟨by have:=HJ6.out;first | omega | exact Nat.le_refl _⟩,⟨uB iG.out⟩,⟨uH HB.out⟩⟩)
      have xE : decide (0 < (l1.length : Int)) = true:=decide_eq_true c14;have Xt : decide (0 < l1.length) = true:=decide_eq_true (by omega);clear c14;replace H:=bO H;obtain ⟨adf,A15,H⟩:=H;replace H:=gB H;obtain ⟨rfl,H⟩|⟨rfl,H⟩:=H
      ·have H':=zA H;clear H;have AV:=bc iG 0;have AX:=bc iG 1;have AY:=bf iG 0;have AZ:=bf iG 1;go_wp2_with (first | (go_at_call 65;(with_reducible refine (jR.calls kj6 aH _ _ aD (wrap64 ((l1.length : Int) - 1)) true _ ?side1 ?side2 A15.out).mono ?_);(case side1=>exact uC ((Kd.aW fP.out HB.out)));(case side2=>exact gG.out);rintro e w18 ⟨rfl,hb⟩;replace iG:=xB iG hb;replace HB:=xH HB hb;(try clear hb)));go_meet;(case rel=>exact ⟨_,H',⟨by have:=HJ6.out;first | omega | exact Nat.le_refl _⟩,⟨uB iG.out⟩,⟨uH HB.out⟩⟩)
      ·simp only [Option.some.injEq,Prod.mk.injEq] at H;obtain ⟨rfl,rfl⟩:=H;have Bb:=bc iG 0;have Dn:=bc iG 1;have Bc:=bf iG 0;have Dp:=bf iG 1;go_wp2_with (first | (go_at_call 65;(with_reducible refine (jR.calls kj6 aH _ _ aD (wrap64 ((l1.length : Int) - 1)) false _ ?side1 ?side2 A15.out).mono ?_);(case side1=>exact uC ((Kd.aW fP.out HB.out)));(case side2=>exact gG.out);rintro e w20 ⟨rfl,hb⟩;replace iG:=xB iG hb;replace HB:=xH HB hb;(try clear hb)));go_ret2;exact ⟨_,eX,by first | exact Kd.nE _ _ _ _ _ | exact Kd.wH _ _ _ _ _ | exact Kd.qz _ _ _ _ _ | exact Kd.rq _ _ _ _ _ | exact Kd.ru _ _ _ _ _,uH HB.out⟩
  ·simp only [Option.some.injEq,Prod.mk.injEq] at H;obtain ⟨rfl,rfl⟩:=H;have Az:=bc iG 0;have AA:=bc iG 1;have AB:=bf iG 0;have AC:=bf iG 1;go_wp2_with (first | ((with_reducible refine ag (f:=42) rfl ?_);refine gL (some 11) Try.func42 #[.agg #[.int .i64 aH,.slice bM aD.length bJ]] ?_;(with_reducible refine (kI.calls k aH _ _ aD false _ ?side1 ?side2 A5.out).mono ?_);(case side1=>exact uC ((Kd.aW fP.out HB.out)));(case side2=>exact gG.out);rintro e w22 ⟨rfl,hb⟩;refine ⟨_,rfl,?_⟩;replace iG:=xB iG hb;replace HB:=xH HB hb;(try clear hb)));go_ret2;exact ⟨_,eX,by first | exact Kd.nE _ _ _ _ _ | exact Kd.wH _ _ _ _ _ | exact Kd.qz _ _ _ _ _ | exact Kd.rq _ _ _ _ _ | exact Kd.ru _ _ _ _ _,uH HB.out⟩
 case rest =>
  clear HC3;(try clear c1);(try clear c2);(try clear p2);(try clear c4);(try clear c6);(try clear p6);(try clear c10);(try clear qH);(try clear Dr);(try clear c13);(try clear c14);(try clear xE);(try clear Xt);(try clear c16);(try clear qO);(try clear sD);(try clear AV);(try clear AX);(try clear Bb);(try clear Dn);(try clear Az);(try clear AA);(try clear BX);(try clear BZ);(try clear qP);(try clear sF);(try clear AY);(try clear AZ);(try clear Bc);(try clear Dp);(try clear AB);(try clear AC);(try clear Ca);(try clear Cb);(try clear p2);obtain ⟨kq,HA,HJ2,iG,HB⟩:=hcut
  cases kq with
  | zero=>exact absurd HA.out (by simp [aN.j1])
  | succ kj2 =>
   have H:=HA.out;clear HA;simp only [aN.j1] at H;replace H:=bS H;obtain ⟨RQ,KU,H⟩:=H;replace H:=gE H;obtain ⟨c23,Nc,RI,H⟩|⟨c23,Nc,RI,H⟩:=H
   ·have alg : ¬ (l1 = []):=fun h_=>c23 (by rw [h_];rfl);replace H:=bO H;obtain ⟨Bz,A26,H⟩:=H;have H':=zA H;clear H;go_wp2_with (first | ((with_reducible refine aT (N:=36) rfl ?_);(try (refine lq (by rfl) ?_;dsimp only));refine Kd.mX (Kd.int .i64) _ 2 ?hg (N:=36) ?hd (xs:=([] : List Int)) (inner:=[]) (ok:=fun _=>True) (okp:=fun _=>True) ?hr ?hp (fun _ hk=>hk) trivial (Below.refl _ _) (Nat.le_refl _) (by simp) ?_;(case hd=>rfl);(case hg=>rfl);(case hr=>first | (go_simp;done) | (go_simp;rfl));(case hp=>exact (cB.none _ _));intro adh w27 wE hb hg_ hnew_;clear hg_ hnew_;(first | rw [← KU.out] at wE | (simp only [Int.reduceToNat] at wE;rw [← KU.out] at wE));have EG:=zA (Kd.aX wE (af (uH HB.out)));replace iG:=xB iG hb;replace HB:=xH HB hb;clear hb wE;have Dt:=bc iG 0;have Du:=bc iG 1;have Dv:=bf iG 0;have Dw:=bf iG 1) | ((with_reducible refine ag (f:=66) rfl ?_);refine gL (some 45) Try.func66 #[.agg #[.int .i64 aH,.slice bM aD.length bJ],.int .i64 (wrap64 ((l1.length : Int) - 1))] ?_;(with_reducible refine (ek.calls kj2 aH _ _ aD (wrap64 ((l1.length : Int) - 1)) Bz _ ?side1 ?side2 A26.out).mono ?_);(case side1=>exact uC ((Kd.aW fP.out HB.out)));(case side2=>exact gG.out);rintro e w30 ⟨alh,rfl,ho0,hb⟩;refine ⟨_,rfl,?_⟩;have af2:=zA (Kd.nu (Kd.iZ (ok':=fun k_=>ax k_ adh∧k_ ≠ Aq) ho0 (fun k_ hk_=>⟨(Kd.fresh' (Kd.ku (uR EG.out)) k_ hk_),(Kd.iK (g:=Aq) (o:=.cells #[.int .i64 aH,.slice bM aD.length bJ] 26 (0,0)) (uB iG.out) k_ hk_)⟩)) (af (uH HB.out)));replace EG:=xR EG hb;replace iG:=xB iG hb;replace HB:=xH HB hb;(try clear hb);(try clear hk);(try clear ho0)));go_loopg [6,8] kj2 (fun kq v6 v8 w'=>∃ (Bn : List Int) (nC : Int),v8 = .int .i64 nC∧aa (aN.l0 kq l1 Bn Bz nC aH aD = some (r1,r2))∧aa (kq ≤ kj2)∧aa (Kd.R (Kd.int .i64) 2 w' w.heap.size (fun _=>True) v6 Bn)∧aa (Kd.N (Kd.slice 2 (Kd.int .i64)) 24 w' w.heap.size (fun k_=>ax k_ v6∧k_ ≠ Aq) alh Bz)∧aa (w'.heap[Aq]? = some (.cells #[.int .i64 aH,(.slice bM aD.length bJ)] 26 (0,0)))∧aa (Below w.heap.size w w'));(case atStart=>exact ⟨(RQ),(0),eS,H',⟨Nat.le_refl _⟩,⟨uR EG.out⟩,⟨uN af2.out⟩,⟨uB iG.out⟩,⟨uH HB.out⟩⟩)
    case round =>
     clear H';(try clear c1);(try clear c2);(try clear p2);(try clear c4);(try clear c6);(try clear p6);(try clear c10);(try clear qH);(try clear Dr);(try clear c13);(try clear c14);(try clear xE);(try clear Xt);(try clear c16);(try clear c23);(try clear Nc);(try clear RI);(try clear alg);(try clear c28);(try clear qO);(try clear sD);(try clear AV);(try clear AX);(try clear Bb);(try clear Dn);(try clear Az);(try clear AA);(try clear Dt);(try clear Du);(try clear BX);(try clear BZ);(try clear qP);(try clear sF);(try clear AY);(try clear AZ);(try clear Bc);(try clear Dp);(try clear AB);(try clear AC);(try clear Dv);(try clear Dw);(try clear Ca);(try clear Cb);(try clear p2);(try clear p6);obtain ⟨Bn,nC,rfl,HA,HK2,wX,dX,iG,HB⟩:=hrel
     cases gk with
     | zero=>exact absurd HA.out (by simp [aN.l0])
     | succ k2 =>
      have H:=HA.out;clear HA;simp only [aN.l0] at H;replace H:=gF H;obtain ⟨ali,H⟩|⟨ali,H⟩:=H
      ·simp only [Option.some.injEq,Prod.mk.injEq] at H;obtain ⟨rfl,rfl⟩:=H;go_wp2;go_ret2;exact ⟨_,eX,uR wX.out,uH HB.out⟩
      replace H:=gD H;obtain ⟨alj,H⟩:=H;replace H:=gD H;obtain ⟨Xj,H⟩:=H;replace H:=bO H;obtain ⟨RS,A34,H⟩:=H;have H':=zA H;clear H;(try go_wp2);replace wX:=zA (Kd.iV wX.out);replace dX:=zA (Kd.kR dX.out);replace iG:=zA (eD iG.out);replace HB:=zA (aZ HB.out);obtain ⟨tH,sQ,Xu⟩:=Kd.qN dX.out;(first | subst Xu | (injection Xu with f1_ f2_ f3_;have f4_:=f1_.symm;have f5_:=f3_.symm;clear f1_ f2_ f3_;subst f4_;subst f5_));have RV : 0 ≤ (nC : Int):=oD;have RX : nC < (Bz.length : Int):=oD;obtain ⟨af3,RY,RZ,alk,H9,Np,Nq⟩:=Ao (Kd.kw dX.out).2.2 nC RV RX;cases alk;obtain ⟨atT,abh,abj,R3⟩:=Kd.Jn dX.out [] nC RV (by first | exact RX | exact of_decide_eq_true (by first | (with_reducible assumption) | assumption) | (have e_:=(Kd.kw dX.out).1;omega));obtain ⟨alm,aln,rfl,Ia,Ib⟩:=Kd.qa abj;have Dx:=R3 0 _ rfl;rw [Nat.add_zero,show ((Kd.slice 2 (Kd.int .i64))).sz = 1 from rfl,Nat.mul_one] at Dx;replace Dx:=Option.some.inj (Dx.symm.trans H9);injection Dx with hva_ hvn_ hvc_;rw [hva_] at Ib;rw [hvc_] at Ia;have Ic:=zA (show Kd.V (Kd.int .i64) 2 _ w.heap.size _ _ (gW Bz nC) from Kd.KH Ia Ib);clear hva_ hvn_ hvc_ Ib Ia;clear R3 abh;have yO:=zA Nq;have Xv:=zA Np;clear Nq Np;replace RV:=eq_true RV;replace RX:=eq_true RX;have Xw : 0 ≤ (nC : Int):=oD;have Xx : nC < (l1.length : Int):=oD;obtain ⟨af4,alo,Dy⟩:=Kd.ic HR1.out nC Xw Xx;have Nr:=Dy;cases alo;replace Dy:=hc HB Dy;replace Xw:=eq_true Xw;replace Xx:=eq_true Xx;obtain ⟨KV,KW,abk⟩:=Kd.bB wX.out;(first | subst abk | (injection abk with f1_ f2_ f3_;have f4_:=f1_.symm;have f5_:=f3_.symm;clear f1_ f2_ f3_;subst f4_;subst f5_));refine kF (n:=13) (S:=fun w'=>w'.cell? ⟨Aq,0,none⟩ = some (.int .i64 aH)∧w'.cell? ⟨Aq,1,none⟩ = some (.slice bM aD.length bJ)∧w'.cell? (af3.add (nC).toNat) = some (.slice RY (gW Bz nC).length RZ)∧w'.cell? (af4.add (nC).toNat) = some (.int .i64 (rd l1 nC))) (ds:=[]) #[false,false,false,false,false,false,false,false,false,false,false,false,false] (by kernel_rfl) rfl rfl ⟨bcu iG 0,bcu iG 1,H9,(hcu HB Nr)⟩ (fun hHeld=>?_);refine gX aN.Xh aN.PH (fun HT_ HW_=>?_);generalize wr.drew = w35 at wX dX iG HB Ic yO H9 Dy hHeld ⊢;refine pu_ 0 52 (bl 13 1) HT_ ?_;refine pu_ 2 54 (bl 13 5) HT_ ?_;refine pu_ 3 55 (bl 13 13) HT_ ?_;refine pu_ 4 56 (bl 13 29) HT_ ?_;refine pu_ 5 57 (bl 13 61) HT_ ?_;refine pu_ 7 59 (bl 13 189) HT_ ?_;refine pu_ 8 60 (bl 13 445) HT_ ?_;refine pu_ 9 61 (bl 13 957) HT_ ?_;refine ta_ 1 53 (bl 13 959) HT_ HW_ hHeld ?_;refine ta_ 6 58 (bl 13 1023) HT_ HW_ hHeld ?_;refine ta_ 10 62 (bl 13 2047) HT_ HW_ hHeld ?_;refine on_ 11 (some 63) (bl 13 4095) HT_ (fun K hK=>?_);refine gS Try.func67 #[.int .i64 aH,.slice KV Bn.length KW,.slice RY (gW Bz nC).length RZ,.int .i64 (rd l1 nC)] ?_;(with_reducible refine (dF.calls k2 aH _ _ Bn _ _ (gW Bz nC) (rd l1 nC) RS _ ?side1 ?side2 ?side3 ?side4 A34.out).mono ?_);(case side1=>exact uC ((Kd.aM wX.out).2.2));(case side2=>exact (Kd.aM wX.out).2.1);(case side3=>repeat (first | exact (by repeat (first | (with_reducible exact yO.out) | (with_reducible refine Kd.dU ?_ _) | (with_reducible refine Kd.dV ?_ _) | (with_reducible refine Kd.fK ?_) | exact yO.out)) | (with_reducible refine Kd.dU ?_ _) | (with_reducible refine Kd.dV ?_ _) | (with_reducible refine Kd.fK ?_)));(case side4=>exact Xv.out);rintro e w38 ⟨axt,rfl,ho0,hb⟩;have afY:=(hb.cell (World.block_lt_of_cell? _ _ (hHeld.2.2.1))).trans (hHeld.2.2.1);refine ⟨_,rfl,?_⟩;replace dX:=zA (Kd.pM (uN dX.out) (Kd.aG ho0) hb);replace Ic:=zA (Kd.fT (uV Ic.out) (Kd.aG ho0) hb);have af5:=zA (Kd.aX (nw ho0 (uR wX.out)) (af (uH HB.out)));replace wX:=zA (Kd.aJ (uR wX.out) (Kd.aG ho0) hb);replace iG:=xB iG hb;replace yO:=zA (Kd.aW (by repeat (first | (with_reducible exact yO.out) | (with_reducible refine Kd.dU ?_ _) | (with_reducible refine Kd.dV ?_ _) | (with_reducible refine Kd.fK ?_) | exact yO.out)) hb);replace HB:=xH HB hb;(try clear hb);(try clear ho0);refine hK.out _ _ ⟨bcu iG 0,bcu iG 1,afY,(hcu HB Nr)⟩ (fun hHeld=>?_);clear hK K;refine no_ 63 ?_;refine pu_ 12 6 (bl 13 8191) HT_ ?_;refine done_ (done_of HT_.out (by kernel_rfl)) ?_;(try go_wp2);go_roundg k2;(case measure=>have:=HJ2.out;have:=HK2.out;omega);(case rel=>exact ⟨(RS),(wrap64 (nC + 1)),eS,H',⟨by have:=HJ2.out;have:=HK2.out;omega⟩,⟨uR (Kd.ah af5.out (fun _ hk=>trivial))⟩,⟨by (with_reducible repeat (first | apply Kd.kZ | apply Kd.lg | apply Kd.kR));exact Kd.iZ dX.out (fun _ hk=>⟨hk.2,hk.1.2⟩)⟩,⟨uB iG.out⟩,⟨uH HB.out⟩⟩)
   clear c23;simp only [Option.some.injEq,Prod.mk.injEq] at H;obtain ⟨rfl,rfl⟩:=H;go_wp2_with (first | ((with_reducible refine aT (N:=36) rfl ?_);(try (refine lq (by rfl) ?_;dsimp only));refine Kd.mX (Kd.int .i64) _ 2 ?hg (N:=36) ?hd (xs:=([] : List Int)) (inner:=[]) (ok:=fun _=>True) (okp:=fun _=>True) ?hr ?hp (fun _ hk=>hk) trivial (Below.refl _ _) (Nat.le_refl _) (by simp) ?_;(case hd=>rfl);(case hg=>rfl);(case hr=>first | (go_simp;done) | (go_simp;rfl));(case hp=>exact (cB.none _ _));intro adh w24 Xy hb hg_ hnew_;clear hg_ hnew_;(first | rw [← KU.out] at Xy | (simp only [Int.reduceToNat] at Xy;rw [← KU.out] at Xy));have EG:=zA (Kd.aX Xy (af (uH HB.out)));replace iG:=xB iG hb;replace HB:=xH HB hb;clear hb Xy));go_ret2;exact ⟨_,eX,uR EG.out,uH HB.out⟩
/- Hankel determinants: both come to one plain function; no condition. -/
/-- The first i rows of the Hankel matrix of k rows. -/
def hrows (l : List Int) (k i : Nat) : List (List Int):=(List.range i).map fun j=>(l.take (j + k)).drop j
def EY (p : Int) (l : List Int) (k : Nat) : Int:=Pq p (hrows l k k)
theorem hrows_len (l : List Int) (k i : Nat) : (hrows l k i).length = i:=by simp [hrows]
theorem hrows_succ (l : List Int) (k i : Nat) : hrows l k (i + 1) = hrows l k i ++ [(l.take (i + k)).drop i]:=by unfold hrows;rw [List.range_succ,List.map_append,List.map_singleton]
theorem hrows_sqr {p : Int} (hp : Pm p) {l : List Int} (hl : Nm p l) {k : Nat} (hk : k ≤ 1000) (h : 2 * k ≤ l.length + 1) : Ps p (hrows l k k):=by
  refine ⟨⟨hp.two,hp.top⟩,by rw [hrows_len];exact hk,fun r hr=>?_⟩
  obtain ⟨j,hj,rfl⟩:=List.mem_map.1 hr
  have hj:=List.mem_range.1 hj
  refine ⟨by rw [hrows_len,List.length_drop,List.length_take];omega,(hl.take _).drop _⟩
theorem af6 {p : Int} {rows : List (List Int)} (h : Ps p rows) (n : Nat) : aK.f n p rows = some (Pq p rows):=by unfold aK.f;rw [if_pos h]
theorem abl {p : Int} {rows : List (List Int)} (h : Ps p rows) (n : Nat) : kr.f n p rows = some (Pq p rows):=by unfold kr.f;rw [if_pos h]
section
variable {p : Int} (hp : Pm p) {l : List Int} (nl : Nm p l) (hl : l.length ≤ 24) {k : Nat} (hk : 2 * k ≤ l.length + 1)
include hp nl hl hk
theorem Ns (d : Nat) : ∀ i : Nat,i + d = k → Ev (fun n=>gM.l0 n (k : Int) (hrows l k i) (i : Int) p l) (EY p l k):=by
  induction d with
  | zero =>
    intro i hi
    obtain rfl : i = k:=by omega
    refine Ev.step (fun n=>by rw [gM.l0]) ?_
    exact Ev.neg (by omega) (Ev.bind ⟨0,fun n _=>abl (hrows_sqr hp nl (by omega) hk) n⟩ (Ev.now _))
  | succ d ih =>
    intro i hi
    refine Ev.step (fun n=>by rw [gM.l0]) ?_
    rw [Xz (i:=i) (j:=k) (n:=1000) (by omega) (by omega),kS (i:=i) (n:=k) (by omega) (by omega)]
    refine Ev.pos (by omega) (Ev.pos (by omega) (Ev.pos (by omega) (Ev.pos (by omega) ?_)))
    rw [jZ,jZ]
    refine Ev.jl (G9 _ (by rw [List.length_drop,List.length_take];unfold Sm;omega)) (Ev.pos (by rw [hrows_len];omega) ?_)
    rw [← hrows_succ]
    exact ih (i + 1) (by omega)
theorem Nt (d : Nat) : ∀ i : Nat,i + d = k → Ev (fun n=>eH.l0 n (k : Int) (hrows l k i) (k : Int) (i : Int) p l) (EY p l k):=by
  induction d with
  | zero =>
    intro i hi
    obtain rfl : i = k:=by omega
    refine Ev.step (fun n=>by rw [eH.l0]) ?_
    exact Ev.neg (by omega) (Ev.jl (a:=p) rfl (Ev.bind ⟨0,fun n _=>af6 (hrows_sqr hp nl (by omega) hk) n⟩ (Ev.now _)))
  | succ d ih =>
    intro i hi
    refine Ev.step (fun n=>by rw [eH.l0]) ?_
    rw [Xz (i:=i) (j:=k) (n:=1000) (by omega) (by omega),kS (i:=i) (n:=k) (by omega) (by omega)]
    refine Ev.pos (by omega) (Ev.pos (by omega) (Ev.pos (by omega) (Ev.pos (by omega) (Ev.pos (by rw [hrows_len];omega) ?_))))
    rw [jZ,jZ,← hrows_succ]
    exact ih (i + 1) (by omega)
theorem Nu : Ev (fun n=>gM.f n p l (k : Int)) (EY p l k):=Ns hp nl hl hk k 0 (by omega)
theorem Nv : Ev (fun n=>eH.f n p l (k : Int)) (EY p l k):=Nt hp nl hl hk k 0 (by omega)
end
theorem KX {l : List Int} (hl : Sm l.length) : wrap64 (Int.tdiv (wrap64 ((l.length : Int) + 1)) 2) = (((l.length + 1) / 2 : Nat) : Int):=by
  unfold Sm at hl
  rw [df (x:=(l.length : Int) + 1) (by omega) (by omega),Int.tdiv_eq_ediv_of_nonneg (by omega),df (by omega) (by omega)]
  omega
theorem JJ (p : Int) {l : List Int} (hl : Sm l.length) (a : Int) : jr.f p l a = some (decide (0 ≤ a∧a ≤ (((l.length + 1) / 2 : Nat) : Int))):=by
  unfold jr.f eP.f
  by_cases h : a ≥ 0
  · rw [if_pos h]
    simp only [Option.bind_some,KX hl]
    congr 2
    simp [h]
  · rw [if_neg h]
    congr 1
    simp [show ¬ 0 ≤ a from h]
/- The order: both come to one plain function; no condition. -/
/-- The first order from i on, d at most, behind which the Hankel determinant is 0. -/
def EX (p : Int) (l : List Int) : Nat → Nat → Int
  | 0,i=>i
  | d + 1,i=>if EY p l (i + 1) = 0 then i else EX p l d (i + 1)
section
variable {p : Int} (hp : Pm p) {l : List Int} (nl : Nm p l) (hl : l.length ≤ 24)
include hp nl hl
theorem PL (d : Nat) : ∀ i : Nat,i + d = (l.length + 1) / 2 → Ev (fun n=>je.l0 n (i : Int) p l) (EX p l d i):=by
  induction d with
  | zero =>
    intro i hi
    refine Ev.step (fun n=>by rw [je.l0]) ?_
    rw [KX (by unfold Sm;omega)]
    exact Ev.neg (by omega) (Ev.now _)
  | succ d ih =>
    intro i hi
    refine Ev.step (fun n=>by rw [je.l0]) ?_
    rw [KX (by unfold Sm;omega),kS (i:=i) (n:=1000) (by omega) (by omega),EX]
    refine Ev.pos (by omega) (Ev.bind (Nu hp nl hl (by omega)) ?_)
    by_cases h : EY p l (i + 1) = 0
    · rw [if_pos h];exact Ev.pos h (Ev.now _)
    · rw [if_neg h];exact Ev.neg h (ih (i + 1) (by omega))
theorem PM (d : Nat) : ∀ i : Nat,i + d = (l.length + 1) / 2 → Ev (fun n=>fu.l0 n (i : Int) p l) (EX p l d i):=by
  induction d with
  | zero =>
    intro i hi
    refine Ev.step (fun n=>by rw [fu.l0]) ?_
    rw [kS (i:=i) (n:=1000) (by omega) (by omega)]
    exact Ev.jl (JJ p (by unfold Sm;omega) _) (Ev.neg (by simp;omega) (Ev.now _))
  | succ d ih =>
    intro i hi
    refine Ev.step (fun n=>by rw [fu.l0]) ?_
    rw [kS (i:=i) (n:=1000) (by omega) (by omega),EX]
    refine Ev.jl (JJ p (by unfold Sm;omega) _) (Ev.pos (decide_eq_true (by omega)) (Ev.bind (Nv hp nl hl (by omega)) ?_))
    by_cases h : EY p l (i + 1) = 0
    · rw [if_pos h];exact Ev.pos h (Ev.now _)
    · rw [if_neg h];exact Ev.neg h (ih (i + 1) (by omega))
def En (p : Int) (l : List Int) : Int:=EX p l ((l.length + 1) / 2) 0
theorem GK : Ev (fun n=>je.f n p l) (En p l):=PL hp nl hl _ 0 (by omega)
theorem Ox : Ev (fun n=>fu.f n p l) (En p l):=PM hp nl hl _ 0 (by omega)
end
/- The orthogonal polynomials of moments: what the program (upTo) and the reference (UL) come to; no condition. -/
/-- L(f f x^s). -/
def oq (p : Int) (l f : List Int) (s : Nat) : Int:=xu p l (nz p f f) s
def rE (p : Int) (l f : List Int) : Int:=oq p l f 1 * wT p (oq p l f 0) % p
def zS (p : Int) (l b f : List Int) (i : Nat) : Int:=if i = 0 then l.getD 0 0 else oq p l f 0 * wT p (oq p l b 0) % p
/-- P(k - 1) and P(k). -/
def ql (p : Int) (l : List Int) : Nat → List Int × List Int
  | 0=>([],[1])
  | i + 1=>((ql p l i).2,zU p (rE p l (ql p l i).2) (zS p l (ql p l i).1 (ql p l i).2 i) (ql p l i).2 (ql p l i).1)
def mP (p : Int) (l : List Int) (i : Nat) : List Int:=(ql p l i).2
theorem Cs {p : Int} (hp : Pm p) (l : List Int) (k : Nat) : (Nm p (ql p l k).1∧Nm p (ql p l k).2)∧((ql p l k).1.length ≤ k + 1∧(ql p l k).2.length ≤ k + 1):=by
  induction k with
  | zero=>exact ⟨⟨Nm.nil p,af7 hp⟩,by simp [ql],by simp [ql]⟩
  | succ k ih =>
    refine ⟨⟨ih.1.2,XA hp _ _ _ _⟩,by have:=ih.2.2;simp only [ql];omega,?_⟩
    have:=Uj p (rE p l (ql p l k).2) (zS p l (ql p l k).1 (ql p l k).2 k) (ql p l k).2 (ql p l k).1
    have h:=ih.2
    simp only [ql]
    omega
theorem yU {p : Int} (hp : Pm p) (l : List Int) (k : Nat) : (mP p l k).length ≤ k + 1:=(Cs hp l k).2.2
theorem GI {p : Int} (hp : Pm p) (l : List Int) (k : Nat) : Nm p (mP p l k):=(Cs hp l k).1.2
/-- L(x f) by the product with x. -/
theorem UR {p : Int} (hp : Pm p) (l f : List Int) (hf : Nm p f) : xu p l (nz p [0,1] f) 0 = xu p l f 1:=by
  unfold xu
  have hg : ∀ j,(nz p [0,1] f).getD j 0 = sh f 1 j:=fun j=>by
    have hb : 0 ≤ sh f 1 j∧sh f 1 j < p:=by
      unfold sh
      split
      · exact hf.C8 hp.pos _
      · exact ⟨Int.le_refl _,hp.pos⟩
    rw [Hr hp.pos]
    show ((0 + 0 * sh f 0 j) + 1 * sh f 1 j) % p = _
    rw [Int.zero_mul,Int.one_mul,Int.zero_add,Int.zero_add,Int.emod_eq_of_lt hb.1 hb.2]
  have h1 : ∀ j,(nz p [0,1] f).length ≤ j → (nz p [0,1] f).getD j 0 * l.getD (j + 0) 0 = 0:=fun j hj=>by rw [Aj _ hj,Int.zero_mul]
  have h2 : ∀ j,f.length + 1 ≤ j → (nz p [0,1] f).getD j 0 * l.getD (j + 0) 0 = 0:=fun j hj=>by rw [hg,afD (by omega),Int.zero_mul]
  have h3 : sumTo (fun j=>(nz p [0,1] f).getD j 0 * l.getD (j + 0) 0) (nz p [0,1] f).length = sumTo (fun j=>(nz p [0,1] f).getD j 0 * l.getD (j + 0) 0) (f.length + 1):=by
    rw [← zm h1 (f.length + 1),← zm h2 (nz p [0,1] f).length,Nat.add_comm]
  rw [h3,Ak]
  have h4 : (nz p [0,1] f).getD 0 0 * l.getD (0 + 0) 0 = 0:=by rw [hg,sh,if_neg (by omega),Int.zero_mul]
  rw [h4,Int.zero_add]
  congr 1
  refine sumTo_congr _ fun t ht=>?_
  rw [hg,sh,if_pos (by omega)]
  rfl
theorem yH {p : Int} (hp : Pm p) (l f : List Int) (s : Nat) : 0 ≤ oq p l f s∧oq p l f s < p:=mi hp.pos _
theorem Jp {p : Int} (hp : Pm p) (l f : List Int) : 0 ≤ rE p l f∧rE p l f < p:=mi hp.pos _
theorem UT {p : Int} (hp : Pm p) {l : List Int} (hl : Nm p l) (b f : List Int) (i : Nat) : 0 ≤ zS p l b f i∧zS p l b f i < p:=by
  unfold zS
  split
  · exact hl.C8 hp.pos 0
  · exact mi hp.pos _
theorem IX (x p : Int) : (-(x % p)) % p = (-x) % p:=by
  have h:=I8 0 x p
  rwa [Int.zero_sub,Int.zero_sub] at h
/-- The empty list added. -/
theorem UO {p : Int} (f : List Int) (k : Int) (hf : mr f = f) : yA p f [] k = f:=by
  unfold yA
  rw [List.length_nil,sW,Nat.max_zero,rU,Nat.sub_self,List.replicate_zero,List.append_nil,hf]
/- The orthogonal polynomials of moments are monic; expansions in monic polynomials, sums of polynomials: plain; no condition. -/
theorem BU {p : Int} (hp : Pm p) (l : List Int) (k : Nat) : Mon (mP p l k) k:=by
  induction k with
  | zero=>exact ⟨rfl,rfl⟩
  | succ k ih=>exact TY hp _ _ _ _ k ih (Cs hp l k).2.1
theorem PN (p c : Int) (g : List Int) (d : Nat) : ∀ (i : Nat) (o : List Int),i + d < o.length →
    (sW p c g (d + 1) i o).getD (i + d) 0 = (o.getD (i + d) 0 + c * g.getD (i + d) 0) % p:=by
  induction d with
  | zero =>
    intro i o h
    rw [sW,sW,Nat.add_zero,yj (by omega)]
  | succ d ih =>
    intro i o h
    have:=ih (i + 1) (o.set i ((o.getD i 0 + c * g.getD i 0) % p)) (by rw [List.length_set];omega)
    rw [sW,show i + (d + 1) = i + 1 + d from by omega,this,getD_set_ne (by omega)]
theorem abm {l : List Int} {k : Nat} (hl : l.length = k + 1) (h : l.getD k 0 = 0) : (mr l).length ≤ k:=by
  have hne : l ≠ []:=by intro e;rw [e] at hl;simp at hl
  have e:=List.dropLast_concat_getLast hne
  have hlast : l.getLast hne = 0:=by
    rw [List.getLast_eq_getElem,← h,List.getD_eq_getElem?_getD,List.getElem?_eq_getElem (by omega)]
    simp [hl]
  rw [hlast] at e
  rw [← e,qG]
  have:=CR l.dropLast
  rw [List.length_dropLast] at this
  omega
/-- The highest number taken away by a monic polynomial. -/
theorem KD {p : Int} {f g : List Int} {k : Nat} (hl : f.length = k + 1) (hg : Mon g k) : (yA p f g ((-(f.getD k 0)) % p)).length ≤ k:=by
  have hmx : max f.length g.length = k + 1:=by rw [hl,hg.1];omega
  have ho : rU f (k + 1) = f:=by rw [rU,hl,Nat.sub_self,List.replicate_zero,List.append_nil]
  have h1:=PN p ((-(f.getD k 0)) % p) g k 0 f (by omega)
  rw [Nat.zero_add,hg.2,Int.mul_one,Int.add_emod_emod,Int.add_right_neg,Int.zero_emod] at h1
  unfold yA
  rw [hmx,ho,hg.1]
  exact abm (by rw [EC];exact hl) h1
/-- The numbers of f in monic polynomials, from the highest on. -/
def tF (p : Int) (P : Nat → List Int) : Nat → List Int → List Int → List Int
  | 0,_,o=>o
  | d + 1,f,o=>if f.length = 0 then o else tF p P d (yA p f (P (f.length - 1)) ((-(f.getD (f.length - 1) 0)) % p)) (o.set (f.length - 1) (f.getD (f.length - 1) 0))
theorem V4 (p : Int) (P : Nat → List Int) (d : Nat) (o : List Int) : tF p P d [] o = o:=by
  cases d with
  | zero=>rfl
  | succ d=>rw [tF];exact if_pos rfl
/-- The sum of c 0 P 0 to c (k - 1) P (k - 1). -/
def xS (p : Int) (P : Nat → List Int) (c : Nat → Int) : Nat → List Int
  | 0=>[]
  | k + 1=>yA p (xS p P c k) (P k) (c k)
theorem Cu {p : Int} (hp : Pm p) (P : Nat → List Int) (c : Nat → Int) (k : Nat) : Nm p (xS p P c k):=by
  induction k with
  | zero=>exact Nm.nil p
  | succ k ih=>exact CZ hp.pos ih _
theorem Ct {p : Int} (P : Nat → List Int) (c : Nat → Int) (hP : ∀ i,(P i).length ≤ i + 1) (k : Nat) : (xS p P c k).length ≤ k:=by
  induction k with
  | zero=>exact Nat.le_refl _
  | succ k ih =>
    have:=Nw p (xS p P c k) (P k) (c k)
    have:=hP k
    rw [xS]
    omega
/-- Polynomials up to degree n - 1 are there. -/
def Tn (p : Int) (l : List Int) (n : Nat) : Prop:=n = 0 ∨ ((n : Int) - 1 ≤ En p l∧2 * (n - 1) ≤ l.length)
end Go.Proofs.Ytnpepkpogohcmaa.Pr
