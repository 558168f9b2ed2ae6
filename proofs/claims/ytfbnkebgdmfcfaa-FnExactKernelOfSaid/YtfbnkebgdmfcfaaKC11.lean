/- Texts of this session in one: what functions of the program compute, and plain facts of it, under the conditions that each theorem names. -/
import Derived.Deep.RegionHeld
import Derived.LoopIn
import Derived.LoopNIn
import Derived.OwnWalkIn
import Derived.RangeFuncBound
import Derived.RangeFuncBox
import Derived.RangeFuncCalls
import Derived.RangeFuncFrom
import Derived.RangeFuncLeaves
import Derived.Shelf.Abstract
import Derived.TacticsInMore
import Derived.WalkKit
import Derived.Test.YtfbnkebgdmfcfaaKC01
import Derived.Test.YtfbnkebgdmfcfaaKC06
import Derived.Test.YtfbnkebgdmfcfaaKC09
namespace Go.Proofs.Ytfbnkebgdmfcfaa.Pr
open Go.RowKit Go.Proofs.YtfbnkebgdmfcfaaW.PrintWords Go.Proofs.YtfbnkebgdmfcfaaW.PrintLast Go.Proofs.YtfbnkebgdmfcfaaW.PrintMore
attribute [local go_sem] max2_int min2_int max_two min_two max_three min_three max_four min_four   -- for this text's walks alone
set_option linter.unusedVariables false
set_option linter.unusedSimpArgs false
/-! ### spec_l01At: function 67 -/
def spec_l01At.l0 : Nat → Int → List Int → Int → Int → Int → Option (Int)
 | 0, _, _, _, _, _ => none
 | k + 1, x0, x1, x2, x7, x8 => if x8 ≥ 0 then (if 0 ≤ x8 then (if x8 < (x1.length : Int) then (if x0 = 0 then (none) else (spec_l01At.l0 k x0 x1 x2 (Int.tmod (wrap64 ((wrap64 (x7 * x2)) + (rd x1 x8))) x0) (wrap64 (x8 - 1)))) else (none)) else (none)) else (some x7)
def spec_l01At.f (k : Nat) (a0 : Int) (l1 : List Int) (a2 : Int) : Option (Int) := spec_l01At.l0 k a0 l1 a2 0 (wrap64 ((l1.length : Int) - 1))
set_option maxHeartbeats 8000000 in
set_option maxRecDepth 100000 in
theorem spec_l01At.calls (k : Nat) (a0 : Int) (A1 : Option Addr) (c1 : Nat) (l1 : List Int) (a2 : Int) (r : Int) (w : World) (hr1 : Kd.C (Kd.int .i64) w A1 l1.length l1) (hc1 : l1.length ≤ c1) (h : spec_l01At.f k a0 l1 a2 = some r) :
  Calls Try.prog 67 #[.int .i64 a0, .slice A1 l1.length c1, .int .i64 a2] w fun e w' => e = .returned (.int .i64 r) ∧ Drawn0 w w' := by
 have HR1 := zA hr1
 have HC1 := zA hc1
 clear hr1 hc1
 have H : (spec_l01At.l0 k a0 l1 a2 0 (wrap64 ((l1.length : Int) - 1))) = some r := h
 clear h
 have H' := zA H
 clear H
 go_enter Try.func67, Try.ntmps67
 go_wp2
 go_loopg [7, 8] k (fun kq v7 v8 w' => ∃ (x7_1 : Int) (x8_1 : Int), v7 = .int .i64 x7_1 ∧ v8 = .int .i64 x8_1 ∧ Aside0 (spec_l01At.l0 kq a0 l1 a2 x7_1 x8_1 = some r) ∧ Aside0 (kq ≤ k) ∧ Drawn0 w w')
 case atStart => exact ⟨(0), (wrap64 ((l1.length : Int) - 1)), (by first | rfl | (simp; done) | (simp [*]; done)), (by first | rfl | (simp; done) | (simp [*]; done)), H', ⟨Nat.le_refl _⟩, by repeat (first | exact Drawn0.refl _ | apply Drawn0.step)⟩
 case round =>
  clear H'
  (try clear c1);(try clear p2)
  obtain ⟨x7_1, x8_1, rfl, rfl, HA, HK1, ⟨m1, rfl⟩⟩ := hrel
  cases gk with
  | zero => exact absurd HA.out (by simp [spec_l01At.l0])
  | succ k1 =>
   have H := HA.out
   clear HA
   simp only [spec_l01At.l0] at H
   by_cases c4 : x8_1 ≥ 0
   rotate_left
   ·rw [if_neg c4] at H
    have c4b0 : decide (0 ≤ x8_1) = false := decide_eq_false c4
    clear c4
    obtain rfl := Option.some.inj H
    go_wp2
    go_ret
    exact ⟨by first | rfl | (simp; done) | (simp [*]; done), by repeat (first | exact Drawn0.refl _ | apply Drawn0.step)⟩

   rw [if_pos c4] at H
   have c4b0 : decide (0 ≤ x8_1) = true := decide_eq_true c4
   clear c4
   by_cases c5 : 0 ≤ x8_1
   rotate_left
   ·rw [if_neg c5] at H
    exact absurd H (by simp)
   rw [if_pos c5] at H
   have c5b0 : decide (0 ≤ x8_1) = true := decide_eq_true c5
   clear c5
   by_cases c6 : x8_1 < (l1.length : Int)
   rotate_left
   ·rw [if_neg c6] at H
    exact absurd H (by simp)
   rw [if_pos c6] at H
   have c6b0 : decide (x8_1 < (l1.length : Int)) = true := decide_eq_true c6
   clear c6
   by_cases c7 : a0 = 0
   rotate_left
   ·rw [if_neg c7] at H
    have c7b0 : (a0 == 0) = false := beq_eq_false_iff_ne.mpr c7
    have c7b1 : (a0 != 0) = true := bne_iff_ne.mpr c7
    have H' := zA H
    clear H
    have p799 : 0 ≤ (x8_1 : Int) := of_decide_eq_true (by first | (with_reducible assumption) | assumption)
    have q799 : x8_1 < (l1.length : Int) := of_decide_eq_true (by first | (with_reducible assumption) | assumption)
    obtain ⟨ad799, e799, hx799_0⟩ := Kd.at_int HR1.out x8_1 p799 q799
    cases e799
    replace p799 := eq_true p799
    replace q799 := eq_true q799
    go_wp2
    go_roundg k1
    case measure => have := HK1.out; omega
    case rel => exact ⟨(Int.tmod (wrap64 ((wrap64 (x7_1 * a2)) + (rd l1 x8_1))) a0), (wrap64 (x8_1 - 1)), (by first | rfl | (simp; done) | (simp [*]; done)), (by first | rfl | (simp; done) | (simp [*]; done)), H', ⟨by have := HK1.out; omega⟩, by repeat (first | exact Drawn0.refl _ | apply Drawn0.step)⟩
   rw [if_pos c7] at H
   exact absurd H (by simp)
/- slices.Backward over whole numbers: a loop over it is told of all indices and numbers, from the last one on; the slice lies within the reach. (Turned from a worked text of the kit on slices.All.) -/
open Go.RowKit Go.Shelf
attribute [local go_sem] Oper.semAt_some
theorem add_block (ad : Addr) (j : Nat) : (ad.add j).block = ad.block := by
  unfold Addr.add
  first | rfl | (split <;> rfl)
/-- What has come when k rounds are over. -/
def upto {α : Type} (f : Nat → α) (k : Nat) : List α := (List.range k).map f
theorem upto_succ {α : Type} (f : Nat → α) (k : Nat) : upto f (k + 1) = upto f k ++ [f k] := by simp [upto, List.range_succ]
theorem upto_length {α : Type} (f : Nat → α) (k : Nat) : (upto f k).length = k := by simp [upto]
/-- The k-th one from behind: its index and the number. -/
def bk (zs : List Int) (len k : Nat) : Int × Int := ((len : Int) - 1 - (k : Int), zs[len - 1 - k]?.getD 0)

/-- What a round keeps: whatever lay below n₀, and the box Bs that holds the slice. -/
def KpB (n₀ Bs : Nat) (W W' : World) : Prop := Below n₀ W W' ∧ ∀ v, W.cell? ⟨Bs, 0, none⟩ = some v → W'.cell? ⟨Bs, 0, none⟩ = some v
theorem KpB.trans {n₀ Bs : Nat} {A B C : World} (h : KpB n₀ Bs A B) (k : KpB n₀ Bs B C) : KpB n₀ Bs A C := ⟨h.1.trans k.1, fun v e => k.2 v (h.2 v e)⟩

set_option maxRecDepth 100000 in
set_option maxHeartbeats 2000000 in
theorem back1_in (F : Fence) (n : Nat) (h8 : F.fn 154) (hro : F.round = none) (hn : 1 ≤ n) (l Bs n₀ len cap : Nat) (ad : Addr) (zs : List Int) (hreach : len * 8 ≤ 140737488351232) (hb : ad.block < n₀) (J Jx : List (Int × Int) → World → Prop)
    (hY : ∀ pre x W, J pre W → pre.length < len → YieldAt F (n - 1) Try.prog l #[.int .i64 x.1, .int .i64 x.2] W fun e W' =>
      (e = .returned (.bool true) ∧ J (pre ++ [x]) W' ∧ KpB n₀ Bs W W') ∨ (e = .returned (.bool false) ∧ Jx (pre ++ [x]) W'))
    (W : World) (hBs : W.cell? ⟨Bs, 0, none⟩ = some (.slice (some ad) len cap)) (hc : ∀ j, j < len → W.cell? (ad.add j) = some (.int .i64 (zs[j]?.getD 0))) (h0 : J [] W) :
    CallsIn F n Try.prog 154 #[.func (.yield l) #[] #[], .pointer (some ⟨Bs, 0, none⟩)] W fun e W' => (∃ v, e = .returned v) ∧
      ((∃ ys, ys = upto (bk zs len) len ∧ J ys W') ∨ (∃ pre, (∃ k, k ≤ len ∧ pre = upto (bk zs len) k) ∧ Jx pre W')) := by
  refine callsIn_of_wp Try.func154 rfl h8 ?_ hro
  simp only [Try.ntmps154, List.size_toArray, List.length_cons, List.length_nil, Nat.reduceAdd, Nat.reduceSub, Array.replicate_succ, Array.replicate_zero, List.push_toArray, List.append_toArray, List.nil_append, List.cons_append]
  have hw0 : wrap64 ((len : Int) - 1) = (len : Int) - 1 - ((0 : Nat) : Int) := by unfold wrap64; omega
  gi_wp2
  gi_loopw [3] (fun i wr => ∃ k : Nat, k ≤ len ∧ i = .int .i64 ((len : Int) - 1 - (k : Int)) ∧ J (upto (bk zs len) k) wr ∧ KpB n₀ Bs W wr)
    (fun i _ => (intOf i + 1).toNat)
  case atStart => exact ⟨0, Nat.zero_le _, by first | rfl | (simp; done), h0, Below.refl _ _, fun _ h => h⟩
  case round =>
    obtain ⟨k, hk, rfl, hJs, hnx⟩ := hrel
    have hcx : k < len → wr.cell? (ad.add (len - 1 - k)) = some (.int .i64 (zs[len - 1 - k]?.getD 0)) := fun h => (hnx.1.cell (p := ad.add (len - 1 - k)) (show (ad.add (len - 1 - k)).block < n₀ from by rw [add_block]; exact hb)).trans (hc _ (by omega))
    have hbx : wr.cell? ⟨Bs, 0, none⟩ = some (.slice (some ad) len cap) := hnx.2 _ hBs
    by_cases hlt : k < len
    · obtain ⟨fn, tmps, assign, body, hy, hR⟩ := hY _ (bk zs len k) wr hJs (by rw [upto_length]; exact hlt)
      dsimp only [bk] at hy
      have hcx' := hcx hlt
      have hi0 : (0 : Int) ≤ (len : Int) - 1 - (k : Int) := by omega
      have hi1 : (len : Int) - 1 - (k : Int) < (len : Int) := by omega
      have hin : ((len : Int) - 1 - (k : Int)).toNat = len - 1 - k := by omega
      have hw1 : wrap64 ((len : Int) - 1 - (k : Int) - 1) = (len : Int) - 1 - ((k + 1 : Nat) : Int) := by unfold wrap64; omega
      gi_wp2
      refine hR.mono ?_
      rintro e W3 (⟨rfl, hJ3, hk3⟩ | ⟨rfl, hJx3⟩)
      · gi_wp2
        go_roundw
        case rel => exact ⟨k + 1, by omega, by first | rfl | (simp; done) | (simp; omega), by rw [upto_succ]; exact hJ3, hnx.trans hk3⟩
        case measure => simp [intOf]; omega
      · gi_wp2
        refine bodyPost_ret (results_none rfl _ _ _) rfl ?_
        exact ⟨⟨_, rfl⟩, .inr ⟨_, ⟨k + 1, by omega, (upto_succ _ _).symm⟩, hJx3⟩⟩
    · obtain rfl : k = len := by omega
      have hng : ¬ ((0 : Int) ≤ (k : Int) - 1 - (k : Int)) := by omega
      gi_wp2
      go_end0
      first | exact ⟨⟨_, rfl⟩, .inl ⟨_, rfl, hJs⟩⟩ | exact ⟨⟨_, rfl⟩, .inl hJs⟩

set_option maxRecDepth 100000 in
set_option maxHeartbeats 1000000 in
theorem back1_nil_in (F : Fence) (n : Nat) (h8 : F.fn 154) (hro : F.round = none) (l Bs cap : Nat) (A : Option Addr) (J : List (Int × Int) → World → Prop) (W : World) (hBs : W.cell? ⟨Bs, 0, none⟩ = some (.slice A 0 cap)) (h0 : J [] W) :
    CallsIn F n Try.prog 154 #[.func (.yield l) #[] #[], .pointer (some ⟨Bs, 0, none⟩)] W fun e W' => (∃ v, e = .returned v) ∧ J [] W' := by
  refine callsIn_of_wp Try.func154 rfl h8 ?_ hro
  simp only [Try.ntmps154, List.size_toArray, List.length_cons, List.length_nil, Nat.reduceAdd, Nat.reduceSub, Array.replicate_succ, Array.replicate_zero, List.push_toArray, List.append_toArray, List.nil_append, List.cons_append]
  gi_wp2
  gi_loopw [3] (fun i wr => i = .int .i64 (-1) ∧ J [] wr) (fun _ _ => 0)
  case atStart => exact ⟨rfl, h0⟩
  case round =>
    obtain ⟨rfl, hJs⟩ := hrel
    gi_wp2
    go_end0
    exact ⟨⟨_, rfl⟩, hJs⟩

set_option maxHeartbeats 1000000 in
/-- slices.Backward(s): the slice value is boxed; the function value captures the box. -/
theorem back_in (F : Fence) (n : Nat) (h5 : F.fn 145) (hro : F.round = none) (a : Option Addr) (len cap : Nat) (w : World) :
    CallsIn F n Try.prog 145 #[.slice a len cap] w fun e w' => e = .returned (.func (.func 154) #[] #[.pointer (some ⟨w.heap.size, 0, none⟩)]) ∧ w' = w.alloc (.cells #[.slice a len cap] 22) := by
  refine callsIn_of_wp Try.func145 rfl h5 ?_ hro
  simp only [Try.ntmps145, List.size_toArray, List.length_cons, List.length_nil, Nat.reduceAdd, Nat.reduceSub, Array.replicate_succ, Array.replicate_zero, List.push_toArray, List.append_toArray, List.nil_append, List.cons_append]
  gi_wp2
  go_ret
  exact ⟨rfl, rfl⟩
/-- The slice value holds the numbers, in a block below n₀; or there are none. -/
def IntsB (n₀ : Nat) (W : World) (sv : Value) (zs : List Int) : Prop :=
  (zs = [] ∧ ∃ A cap, sv = .slice A 0 cap) ∨ ∃ ad cap, sv = .slice (some ad) zs.length cap ∧ ad.block < n₀ ∧ ∀ j, j < zs.length → W.cell? (ad.add j) = some (.int .i64 (zs[j]?.getD 0))
theorem IntsB.below {n₀ : Nat} {A B : World} (h : Below n₀ A B) {sv : Value} {zs : List Int} : IntsB n₀ A sv zs → IntsB n₀ B sv zs
  | .inl e => .inl e
  | .inr ⟨ad, cap, e, hb, hc⟩ => .inr ⟨ad, cap, e, hb, fun j hj => (h.cell (p := ad.add j) (show (ad.add j).block < n₀ from by rw [add_block]; exact hb)).trans (hc j hj)⟩
/-- A loop over slices.Backward(s) is told of all indices and numbers, from the last one on. -/
theorem back_stops (F : Fence) (n : Nat) (h8 : F.fn 154) (hro : F.round = none) (hn : 1 ≤ n) (Bs n₀ : Nat) (sv : Value) (zs : List Int) (hreach : zs.length * 8 ≤ 140737488351232) (w : World) (hB0 : Bs < w.heap.size) (hn₀ : n₀ ≤ w.heap.size)
    (hc : w.cell? ⟨Bs, 0, none⟩ = some sv) (hI : IntsB n₀ w sv zs) :
    SeqStopsK F n Try.prog 154 #[.pointer (some ⟨Bs, 0, none⟩)] (fun x : Int × Int => #[Value.int .i64 x.1, Value.int .i64 x.2]) (KpB n₀ Bs) (fun ys => ys = upto (bk zs zs.length) zs.length) (fun pre => ∃ k, k ≤ zs.length ∧ pre = upto (bk zs zs.length) k) zs.length w := fun l J Jx W hW _ _ hY h0 => by
  have hc' := (hW.cell (p := ⟨Bs, 0, none⟩) hB0).trans hc
  rcases hI.below (hW.mono hn₀) with ⟨rfl, A, cap, rfl⟩ | ⟨ad, cap, rfl, hb, hcs⟩
  · exact (back1_nil_in F n h8 hro l Bs cap A J W hc' h0).mono fun e W' ⟨he, hj⟩ => ⟨he, .inl ⟨_, rfl, hj⟩⟩
  · exact back1_in F n h8 hro hn l Bs n₀ zs.length cap ad zs hreach hb J Jx hY W hc' hcs h0
/- Lists that begin a recurrence's step: monic stays monic; no condition. -/
theorem getD_set_ne {l : List Int} {i j : Nat} {x : Int} (h : i ≠ j) : (l.set i x).getD j 0 = l.getD j 0 := by
  rw [List.getD_eq_getElem?_getD, List.getElem?_set_ne h, List.getD_eq_getElem?_getD]
theorem getD_set_eq {l : List Int} {i : Nat} {x : Int} (h : i < l.length) : (l.set i x).getD i 0 = x := by
  rw [List.getD_eq_getElem?_getD, List.getElem?_set_self h]; rfl
theorem mulIn_last (p c : Int) (g : List Int) (i d : Nat) : ∀ (j : Nat) (o : List Int), i + j + d < o.length →
    (mulIn p c g i (d + 1) j o).getD (i + j + d) 0 = (o.getD (i + j + d) 0 + c * g.getD (j + d) 0) % p := by
  induction d with
  | zero =>
    intro j o h
    rw [mulIn, mulIn, Nat.add_zero, Nat.add_zero, getD_set_eq (by omega)]
  | succ d ih =>
    intro j o h
    have := ih (j + 1) (o.set (i + j) ((o.getD (i + j) 0 + c * g.getD j 0) % p)) (by rw [List.length_set]; omega)
    rw [mulIn, show i + j + (d + 1) = i + (j + 1) + d from by omega, this, getD_set_ne (by omega), show j + 1 + d = j + (d + 1) from by omega]
theorem mulIn_out (p c : Int) (g : List Int) (i d : Nat) : ∀ (j t : Nat) (o : List Int), i + j + d ≤ t → (mulIn p c g i d j o).getD t 0 = o.getD t 0 := by
  induction d with
  | zero => intro j t o h; rfl
  | succ d ih => intro j t o h; rw [mulIn, ih (j + 1) t _ (by omega), getD_set_ne (by omega)]
theorem addGo_out (p k : Int) (g : List Int) (d : Nat) : ∀ (i t : Nat) (o : List Int), i + d ≤ t → (addGo p k g d i o).getD t 0 = o.getD t 0 := by
  induction d with
  | zero => intro i t o h; rfl
  | succ d ih => intro i t o h; rw [addGo, ih (i + 1) t _ (by omega), getD_set_ne (by omega)]
theorem trim_id {l : List Int} {n : Nat} (hl : l.length = n + 1) (h : l.getD n 0 ≠ 0) : trim l = l := by
  have hne : l ≠ [] := by intro e; rw [e] at hl; simp at hl
  have e := List.dropLast_concat_getLast hne
  have hlast : l.getLast hne = l.getD n 0 := by
    rw [List.getLast_eq_getElem, List.getD_eq_getElem?_getD, List.getElem?_eq_getElem (by omega)]
    simp [hl]
  rw [← e, trim_snoc _ (by rw [hlast]; exact h)]
/-- Monic of degree k. -/
def Mon (f : List Int) (k : Nat) : Prop := f.length = k + 1 ∧ f.getD k 0 = 1
theorem pnext_mon {p : Int} (hp : Pm p) (a b : Int) (f g : List Int) (k : Nat) (hf : Mon f k) (hg : g.length ≤ k + 1) : Mon (pnext p a b f g) (k + 1) := by
  have h2 := hp.two
  have e1 : (1 : Int) % p = 1 := Int.emod_eq_of_lt (by omega) (by omega)
  have hz : (List.replicate (2 + (k + 1) - 1) (0 : Int)).length = k + 2 := by rw [List.length_replicate]; omega
  have ho : (mulIn p ((-a) % p) f 0 (k + 1) 0 (List.replicate (2 + (k + 1) - 1) 0)).length = k + 2 := by rw [mulIn_len]; exact hz
  have hz0 : (List.replicate (2 + (k + 1) - 1) (0 : Int)).getD (k + 1) 0 = 0 := by
    rw [List.getD_eq_getElem?_getD, List.getElem?_replicate]; split <;> rfl
  have hm : pmul p [(-a) % p, 1] f = mulIn p 1 f 1 (k + 1) 0 (mulIn p ((-a) % p) f 0 (k + 1) 0 (List.replicate (2 + (k + 1) - 1) 0)) ∧
      (pmul p [(-a) % p, 1] f).length = k + 2 ∧ (pmul p [(-a) % p, 1] f).getD (k + 1) 0 = 1 := by
    have hl : (mulIn p 1 f 1 (k + 1) 0 (mulIn p ((-a) % p) f 0 (k + 1) 0 (List.replicate (2 + (k + 1) - 1) 0))).length = k + 2 := by rw [mulIn_len]; exact ho
    have ht : (mulIn p 1 f 1 (k + 1) 0 (mulIn p ((-a) % p) f 0 (k + 1) 0 (List.replicate (2 + (k + 1) - 1) 0))).getD (k + 1) 0 = 1 := by
      have := mulIn_last p 1 f 1 k 0 (mulIn p ((-a) % p) f 0 (k + 1) 0 (List.replicate (2 + (k + 1) - 1) 0)) (by rw [ho]; omega)
      rw [show 1 + 0 + k = k + 1 from by omega, mulIn_out p _ f 0 (k + 1) 0 (k + 1) _ (by omega), hz0, Nat.zero_add, hf.2, Int.one_mul, Int.zero_add, e1] at this
      exact this
    have he : pmul p [(-a) % p, 1] f = mulIn p 1 f 1 (k + 1) 0 (mulIn p ((-a) % p) f 0 (k + 1) 0 (List.replicate (2 + (k + 1) - 1) 0)) := by
      unfold pmul
      rw [if_neg (by rw [hf.1]; simp), hf.1]
      show trim (mulOut p [(-a) % p, 1] f 2 0 (List.replicate (2 + (k + 1) - 1) 0)) = _
      rw [mulOut, mulOut, mulOut, hf.1]
      have hq := trim_id hl (by rw [ht]; decide)
      exact hq
    rw [he]
    exact ⟨rfl, hl, ht⟩
  have hmx : max (pmul p [(-a) % p, 1] f).length g.length = k + 2 := by rw [hm.2.1]; omega
  have hl2 : (addGo p ((-b) % p) g g.length 0 (addOf (pmul p [(-a) % p, 1] f) (k + 2))).length = k + 2 := by rw [addGo_len, addOf_len _ (by rw [hm.2.1]; omega)]
  have ht2 : (addGo p ((-b) % p) g g.length 0 (addOf (pmul p [(-a) % p, 1] f) (k + 2))).getD (k + 1) 0 = 1 := by
    rw [addGo_out _ _ _ _ _ _ _ (by omega), addOf, hm.2.1, Nat.sub_self, List.replicate_zero, List.append_nil, hm.2.2]
  unfold pnext padd
  rw [hmx, trim_id hl2 (by rw [ht2]; decide)]
  exact ⟨hl2, ht2⟩
/- field.value: the value of a polynomial, read from the last number on: what the call answers, for every list within the reach and every p other than 0. -/
open Go.RowKit Go.Shelf Go.Proofs.YtfbnkebgdmfcfaaW.PrintWords Go.Proofs.YtfbnkebgdmfcfaaW.PrintLast Go.Proofs.YtfbnkebgdmfcfaaW.PrintMore
/-- One round. -/
def valStep (p x o c : Int) : Int := Int.tmod (wrap64 (Int.tmod (wrap64 (wrap64 (o * x) + c)) p + p)) p
def valOf (p x : Int) (ys : List (Int × Int)) : Int := ys.foldl (fun o y => valStep p x o y.2) 0
theorem valOf_snoc (p x : Int) (ys : List (Int × Int)) (y : Int × Int) : valOf p x (ys ++ [y]) = valStep p x (valOf p x ys) y.2 := by simp [valOf]
def impl_field_value.f (p : Int) (l : List Int) (x : Int) : Option Int := if p = 0 then none else if l.length ≤ 17592186040320 then some (valOf p x (upto (bk l l.length) l.length)) else none

theorem cell_of_box_v {W : World} {B : Nat} {v : Value} {t : TypeId} (h : W.heap[B]? = some (.cells #[v] t (0, 0))) : W.cell? ⟨B, 0, none⟩ = some v ∧ W.frozen? ⟨B, 0, none⟩ = false := by
  constructor <;> simp [World.cell?, World.frozen?, h]
theorem cell_new_v (W : World) (v : Value) (t : TypeId) : (W.alloc (.cells #[v] t)).cell? ⟨W.heap.size, 0, none⟩ = some v ∧ (W.alloc (.cells #[v] t)).frozen? ⟨W.heap.size, 0, none⟩ = false :=
  cell_of_box_v (World.alloc_heap_new W _)
theorem cell_alloc_v {W : World} {a : Addr} {v : Value} (o : Obj) (h : W.cell? a = some v) : (W.alloc o).cell? a = some v := cell_kept h (World.grownBy_alloc W o none) (fun r e => by cases e)
theorem frozen_alloc_v {W : World} {a : Addr} {v : Value} (o : Obj) (h : W.cell? a = some v) (hf : W.frozen? a = false) : (W.alloc o).frozen? a = false := (frozen_kept h (World.grownBy_alloc W o none) (fun r e => by cases e)).trans hf

set_option maxRecDepth 100000 in
set_option maxHeartbeats 2000000 in
theorem impl_field_value.calls_in (F : Fence) (n : Nat) (h1 : F.fn 110) (h2 : F.fn 145) (h3 : F.fn 154) (h4 : F.fn 122) (hro : F.round = none) (hn : 4 ≤ n)
    (hmod : ∀ (k m : Nat) (x y r : Int) (W : World), impl_field_mod.f x y = some r → CallsIn (F.inRound k) m Try.prog 122 #[.int .i64 x, .int .i64 y] W fun e W' => e = .returned (.int .i64 r) ∧ Drawn0 W W')
    (a0 : Int) (A1 : Option Addr) (c1 : Nat) (l1 : List Int) (a2 : Int) (hp : a0 ≠ 0) (hl : l1.length ≤ 17592186040320) (w : World) (hI : IntsB w.heap.size w (.slice A1 l1.length c1) l1) :
    CallsIn F n Try.prog 110 #[.int .i64 a0, .slice A1 l1.length c1, .int .i64 a2] w fun e W' => e = .returned (.int .i64 (valOf a0 a2 (upto (bk l1 l1.length) l1.length))) ∧ Below w.heap.size w W' := by
  have hn1 : 1 ≤ n := by omega
  refine callsIn_of_wp_marks Try.func110 rfl h1 ?_ hro
  simp only [Try.ntmps110, List.size_toArray, List.length_cons, List.length_nil, Nat.reduceAdd, Nat.reduceSub, Array.replicate_succ, Array.replicate_zero, List.push_toArray, List.append_toArray, List.nil_append, List.cons_append]
  gi_wp2_with (gi_at_call 145; refine (back_in F (n - 1) h2 hro _ _ _ _).mono ?_; rintro e w' ⟨rfl, rfl⟩)
  have c0 := cell_new_v w (.int .i64 a0) 82
  have c1' := cell_new_v (w.alloc (.cells #[.int .i64 a0] 82)) (.int .i64 a2) 2
  have c2 := cell_new_v ((w.alloc (.cells #[.int .i64 a0] 82)).alloc (.cells #[.int .i64 a2] 2)) (.int .i64 0) 2
  have c3 := cell_new_v (((w.alloc (.cells #[.int .i64 a0] 82)).alloc (.cells #[.int .i64 a2] 2)).alloc (.cells #[.int .i64 0] 2)) (.slice A1 l1.length c1) 22
  simp only [World.size_alloc] at c1' c2 c3
  have hB0 : Below w.heap.size w ((((w.alloc (.cells #[.int .i64 a0] 82)).alloc (.cells #[.int .i64 a2] 2)).alloc (.cells #[.int .i64 0] 2)).alloc (.cells #[.slice A1 l1.length c1] 22)) := ((((Below.refl _ w).alloc (Nat.le_refl _) _).alloc (by simp) _).alloc (by simp; omega) _).alloc (by simp; omega) _
  refine wpIn_rangeFunc_ownF hro hn1 (gf := 154) (lb := #[.pointer (some ⟨w.heap.size + 1 + 1 + 1, 0, none⟩)]) rfl h3 (enters_of Try.func154 (by kernel_rfl) rfl)
    (back_stops F (n - 1) h3 hro (by omega) (w.heap.size + 1 + 1 + 1) w.heap.size (.slice A1 l1.length c1) l1 (by omega) _ (by simp) (by simp; omega) c3.1 (hI.below hB0)) (fun h k => h.trans k)
    (fun W l o o' hl ho hc hw => ⟨belowK_b (by simp; omega) W l o o' hl ho hc hw, fun v hv => cell_kept hv (grownBy_putObj' _ l o') (fun r e => by cases e; exact ⟨_, ho, hc⟩)⟩) (Below.refl _ _) (fun _ => rfl)
    (fun pre W => ((W.cell? ⟨w.heap.size, 0, none⟩ = some (.int .i64 a0) ∧ W.cell? ⟨w.heap.size + 1, 0, none⟩ = some (.int .i64 a2)) ∧ (W.cell? ⟨w.heap.size + 1 + 1, 0, none⟩ = some (.int .i64 (valOf a0 a2 pre)) ∧ W.frozen? ⟨w.heap.size + 1 + 1, 0, none⟩ = false)) ∧ Below w.heap.size w W)
    (fun _ _ _ => False)
    (OwnFrom.and (Own.from (fun s A B row hs hg hr => ⟨⟨cell_kept hs.1.1 hg hr, cell_kept hs.1.2 hg hr⟩, cell_kept hs.2.1 hg hr, (frozen_kept hs.2.1 hg hr).trans hs.2.2⟩) _) (ownFrom_below (Nat.le_refl _) (by simp; omega)))
    (fun _ _ _ _ _ hs _ _ => hs)
    ⟨⟨⟨cell_alloc_v _ (cell_alloc_v _ (cell_alloc_v _ c0.1)), cell_alloc_v _ (cell_alloc_v _ c1'.1)⟩, cell_alloc_v _ c2.1, frozen_alloc_v _ c2.1 c2.2⟩, hB0⟩
    (fun x => { tmps := #[.int .i64 a0, .slice A1 l1.length c1, .int .i64 a2, .pointer (some ⟨w.heap.size, 0, none⟩), undef, .pointer (some ⟨w.heap.size + 1, 0, none⟩), .int .i64 0, .pointer (some ⟨w.heap.size + 1 + 1, 0, none⟩), undef, .int .i64 x.2, .slice A1 l1.length c1, .func (.func 154) #[] #[.pointer (some ⟨w.heap.size + 1 + 1 + 1, 0, none⟩)], .int .i64 x.1, .int .i64 x.2, undef, undef, undef, undef, undef, undef, undef, undef], defers := [] }) ?assign ?body ?done ?stop
  case assign =>
    intro l x W K hK
    gi_wp2
    exact hK
  case body =>
    rintro l pre x W ⟨⟨⟨hc0, hc1⟩, hc2, hf2⟩, hB⟩ _
    have hm : impl_field_mod.f a0 (wrap64 (wrap64 (valOf a0 a2 pre * a2) + x.2)) = some (valStep a0 a2 (valOf a0 a2 pre) x.2) := by
      unfold impl_field_mod.f valStep
      rw [if_neg hp]
    gi_wp2
    refine ⟨fun _ => by omega, (hmod _ _ _ _ _ _ hm).mono ?_⟩
    rintro e w' ⟨rfl, ⟨nd, rfl⟩⟩
    have d0 : (W.drewN nd).cell? ⟨w.heap.size + 1 + 1, 0, none⟩ = some (.int .i64 (valOf a0 a2 pre)) := hc2
    have d1 : (W.drewN nd).frozen? ⟨w.heap.size + 1 + 1, 0, none⟩ = false := hf2
    have d2 : (W.drewN nd).cell? ⟨w.heap.size, 0, none⟩ = some (.int .i64 a0) := hc0
    have d3 : (W.drewN nd).cell? ⟨w.heap.size + 1, 0, none⟩ = some (.int .i64 a2) := hc1
    have kO : KeepsOthers W (W.drewN nd) := ⟨Nat.le_refl _, fun _ _ h _ => h⟩
    have kB : Below w.heap.size W (W.drewN nd) := pw_below_drewN (Below.refl _ _) nd
    have oth : ∀ (g : Nat) (v v' : Value), g ≠ w.heap.size + 1 + 1 → (W.drewN nd).cell? ⟨g, 0, none⟩ = some v → ((W.drewN nd).setCell ⟨w.heap.size + 1 + 1, 0, none⟩ v').cell? ⟨g, 0, none⟩ = some v := by
      intro g v v' hg hv
      exact (World.cell?_setCell_far _ _ _ _ (fun e => hg e.symm)).trans hv
    gi_wp2
    exact ⟨kO.trans (KeepsOthers.setCell _ _ _), ⟨kB.setCell (p := ⟨w.heap.size + 1 + 1, 0, none⟩) (show w.heap.size ≤ w.heap.size + 1 + 1 from by omega) _, fun v hv => oth _ _ _ (by omega) hv⟩, ⟨⟨oth _ _ _ (by omega) d2, oth _ _ _ (by omega) d3⟩, by rw [valOf_snoc]; exact World.cell?_setCell_same' _ _ _ (by rw [d0]; rfl), by rw [World.frozen?_setCell]; exact d1⟩, (hB.trans kB).setCell (p := ⟨w.heap.size + 1 + 1, 0, none⟩) (show w.heap.size ≤ w.heap.size + 1 + 1 from by omega) _⟩
  case done =>
    rintro D ys W hD rfl ⟨⟨_, hc, _⟩, hB⟩ hK
    gi_wp2
    refine ⟨by simp, .inl ⟨_, _, rfl, run_takeDeferred hK, ?_⟩⟩
    exact ⟨_, results_tmp rfl _ _ _, rfl, hB.trans (belowK_b (w := w) (Nat.le_refl _) W D _ _ (by simp at hD; omega) hK rfl rfl)⟩
  case stop =>
    rintro D c pre W _ _ h _
    exact h.elim
/-- What a slice that came in holds, as the loop wants it. -/
theorem intsB_of_C {w : World} {A1 : Option Addr} {c1 : Nat} {l1 : List Int} (hr1 : Kd.C (Kd.int .i64) w A1 l1.length l1) (hc1 : l1.length ≤ c1) : IntsB w.heap.size w (.slice A1 l1.length c1) l1 := by
  have h := Kd.reads_of_C (enc := Value.int .i64) (d := (0 : Int)) (h1 := fun _ => rfl) hr1
  by_cases h0 : l1.length = 0
  · rw [List.length_eq_zero_iff] at h0
    subst h0
    exact .inl ⟨rfl, A1, c1, rfl⟩
  · obtain ⟨ad, rfl, hc⟩ := h.2.2 (by omega)
    refine .inr ⟨ad, c1, rfl, ?_, fun j hj => ?_⟩
    · have := World.block_lt_of_cell? w _ (hc 0 (by omega))
      rwa [add_block] at this
    · have := hc j hj
      rw [List.getD_eq_getElem?_getD] at this
      exact this
theorem impl_field_value.calls (a0 : Int) (A1 : Option Addr) (c1 : Nat) (l1 : List Int) (a2 : Int) (r : Int) (w : World) (hr1 : Kd.C (Kd.int .i64) w A1 l1.length l1) (hc1 : l1.length ≤ c1) (h : impl_field_value.f a0 l1 a2 = some r) :
    Calls Try.prog 110 #[.int .i64 a0, .slice A1 l1.length c1, .int .i64 a2] w fun e w' => e = .returned (.int .i64 r) ∧ Below w.heap.size w w' := by
  unfold impl_field_value.f at h
  split at h
  · cases h
  · rename_i hp
    split at h
    · rename_i hl
      cases h
      exact callsIn_wide.1 (impl_field_value.calls_in Fence.wide 4 trivial trivial trivial trivial rfl (by omega) (fun k m x y r W hm => (CallsIn.inRound k (callsIn_wide.2 (impl_field_mod.calls x y r W hm)))) a0 A1 c1 l1 a2 hp hl w (intsB_of_C hr1 hc1))
    · cases h
/- Values of polynomials: the program's and the reference's come to one number; no condition. -/
/-- The first k numbers from behind taken in. -/
def valG (p x : Int) (l : List Int) : Nat → Int
  | 0 => 0
  | k + 1 => (valG p x l k * x + l.getD (l.length - 1 - k) 0) % p
theorem valG_in {p : Int} (hp : Pm p) (x : Int) (l : List Int) (k : Nat) : 0 ≤ valG p x l k ∧ valG p x l k < p := by
  cases k with
  | zero => exact ⟨Int.le_refl _, hp.pos⟩
  | succ k => exact emodB hp.pos _
def valF (p x : Int) (l : List Int) : Int := valG p x l l.length
theorem valF_in {p : Int} (hp : Pm p) (x : Int) (l : List Int) : 0 ≤ valF p x l ∧ valF p x l < p := valG_in hp x l _
theorem valStep_eq {p x o c : Int} (hp : Pm p) (hx : 0 ≤ x ∧ x < p) (ho : 0 ≤ o ∧ o < p) (hc : 0 ≤ c ∧ c < p) : valStep p x o c = (o * x + c) % p := by
  have h := mulP hp ho.1 ho.2 hx.1 hx.2
  have ht := hp.top
  unfold valStep
  rw [wrap_id (x := o * x) (by omega) (by omega), wrap_id (x := o * x + c) (by omega) (by omega), go_mod hp]
theorem valOf_upto {p x : Int} (hp : Pm p) (hx : 0 ≤ x ∧ x < p) (l : List Int) (hl : Nm p l) (k : Nat) (hk : k ≤ l.length) : valOf p x (upto (bk l l.length) k) = valG p x l k := by
  induction k with
  | zero => rfl
  | succ k ih =>
    have hg := hl.get (i := l.length - 1 - k) (by omega)
    have hv := valG_in hp x l k
    rw [upto_succ, valOf_snoc, ih (by omega), valG]
    have e : (bk l l.length k).2 = l.getD (l.length - 1 - k) 0 := by simp [bk, List.getD_eq_getElem?_getD]
    rw [e, valStep_eq hp hx hv hg]
theorem implValue_eq {p x : Int} (hp : Pm p) (hx : 0 ≤ x ∧ x < p) (l : List Int) (hl : Nm p l) (hs : Sm l.length) : impl_field_value.f p l x = some (valF p x l) := by
  unfold impl_field_value.f
  unfold Sm at hs
  rw [if_neg hp.ne, if_pos (by omega), valOf_upto hp hx l hl l.length (Nat.le_refl _)]; rfl
theorem specAt_l0 {p x : Int} (hp : Pm p) (hx : 0 ≤ x ∧ x < p) (l : List Int) (hl : Nm p l) (hs : Sm l.length) (d : Nat) : ∀ k, k + d = l.length →
    Ev (fun n => spec_l01At.l0 n p l x (valG p x l k) ((l.length : Int) - 1 - (k : Int))) (valF p x l) := by
  induction d with
  | zero =>
    intro k hk
    refine Ev.step (fun n => by rw [spec_l01At.l0]) ?_
    refine Ev.neg (by omega) (Ev.some' ?_)
    rw [show k = l.length from by omega]; rfl
  | succ d ih =>
    intro k hk
    have hv := valG_in hp x l k
    have hg := hl.get (i := l.length - 1 - k) (by omega)
    have h := mulP hp hv.1 hv.2 hx.1 hx.2
    have ht := hp.top
    unfold Sm at hs
    have er : rd l ((l.length : Int) - 1 - (k : Int)) = l.getD (l.length - 1 - k) 0 := by
      rw [show (l.length : Int) - 1 - (k : Int) = ((l.length - 1 - k : Nat) : Int) from by omega, rd_nat]
    have ew : wrap64 ((l.length : Int) - 1 - (k : Int) - 1) = (l.length : Int) - 1 - ((k + 1 : Nat) : Int) := by rw [wrap_id (by omega) (by omega)]; omega
    refine Ev.step (fun n => by rw [spec_l01At.l0]) ?_
    rw [er, ew]
    clear er ew
    refine Ev.pos (by omega) (Ev.pos (by omega) (Ev.pos (by omega) (Ev.neg hp.ne ?_)))
    rw [wrap_id (x := valG p x l k * x) (by omega) (by omega), wrap_id (by omega) (by omega), tmod_pos (by omega)]
    exact ih (k + 1) (by omega)
theorem specAt_ev {p x : Int} (hp : Pm p) (hx : 0 ≤ x ∧ x < p) (l : List Int) (hl : Nm p l) (hs : Sm l.length) : Ev (fun n => spec_l01At.f n p l x) (valF p x l) := by
  unfold spec_l01At.f
  have h := specAt_l0 hp hx l hl hs l.length 0 (by omega)
  have hs' := hs
  unfold Sm at hs'
  rw [wrap_id (x := (l.length : Int) - 1) (by omega) (by omega)]
  rw [show (l.length : Int) - 1 - ((0 : Nat) : Int) = (l.length : Int) - 1 from by omega] at h
  exact h
/- The orthogonal polynomials of moments are monic; expansions in monic polynomials, sums of polynomials, kernels: plain; no condition. -/
theorem mP_mon {p : Int} (hp : Pm p) (l : List Int) (k : Nat) : Mon (mP p l k) k := by
  induction k with
  | zero => exact ⟨rfl, rfl⟩
  | succ k ih => exact pnext_mon hp _ _ _ _ k ih (mPair_ok hp l k).2.1
theorem addGo_last (p c : Int) (g : List Int) (d : Nat) : ∀ (i : Nat) (o : List Int), i + d < o.length →
    (addGo p c g (d + 1) i o).getD (i + d) 0 = (o.getD (i + d) 0 + c * g.getD (i + d) 0) % p := by
  induction d with
  | zero =>
    intro i o h
    rw [addGo, addGo, Nat.add_zero, getD_set_eq (by omega)]
  | succ d ih =>
    intro i o h
    have := ih (i + 1) (o.set i ((o.getD i 0 + c * g.getD i 0) % p)) (by rw [List.length_set]; omega)
    rw [addGo, show i + (d + 1) = i + 1 + d from by omega, this, getD_set_ne (by omega)]
theorem trim_lt {l : List Int} {k : Nat} (hl : l.length = k + 1) (h : l.getD k 0 = 0) : (trim l).length ≤ k := by
  have hne : l ≠ [] := by intro e; rw [e] at hl; simp at hl
  have e := List.dropLast_concat_getLast hne
  have hlast : l.getLast hne = 0 := by
    rw [List.getLast_eq_getElem, ← h, List.getD_eq_getElem?_getD, List.getElem?_eq_getElem (by omega)]
    simp [hl]
  rw [hlast] at e
  rw [← e, trim_snoc_zero]
  have := trim_len l.dropLast
  rw [List.length_dropLast] at this
  omega
/-- The highest number taken away by a monic polynomial. -/
theorem padd_lt {p : Int} {f g : List Int} {k : Nat} (hl : f.length = k + 1) (hg : Mon g k) : (padd p f g ((-(f.getD k 0)) % p)).length ≤ k := by
  have hmx : max f.length g.length = k + 1 := by rw [hl, hg.1]; omega
  have ho : addOf f (k + 1) = f := by rw [addOf, hl, Nat.sub_self, List.replicate_zero, List.append_nil]
  have h1 := addGo_last p ((-(f.getD k 0)) % p) g k 0 f (by omega)
  rw [Nat.zero_add, hg.2, Int.mul_one, Int.add_emod_emod, Int.add_right_neg, Int.zero_emod] at h1
  unfold padd
  rw [hmx, ho, hg.1]
  exact trim_lt (by rw [addGo_len]; exact hl) h1
/-- The numbers of f in monic polynomials, from the highest on. -/
def expF (p : Int) (P : Nat → List Int) : Nat → List Int → List Int → List Int
  | 0, _, o => o
  | d + 1, f, o => if f.length = 0 then o else expF p P d (padd p f (P (f.length - 1)) ((-(f.getD (f.length - 1) 0)) % p)) (o.set (f.length - 1) (f.getD (f.length - 1) 0))
theorem expF_nil (p : Int) (P : Nat → List Int) (d : Nat) (o : List Int) : expF p P d [] o = o := by
  cases d with
  | zero => rfl
  | succ d => rw [expF]; exact if_pos rfl
/-- The sum of c 0 P 0 to c (k - 1) P (k - 1). -/
def sumP (p : Int) (P : Nat → List Int) (c : Nat → Int) : Nat → List Int
  | 0 => []
  | k + 1 => padd p (sumP p P c k) (P k) (c k)
theorem sumP_nm {p : Int} (hp : Pm p) (P : Nat → List Int) (c : Nat → Int) (k : Nat) : Nm p (sumP p P c k) := by
  induction k with
  | zero => exact Nm.nil p
  | succ k ih => exact padd_nm hp.pos ih _
theorem sumP_len {p : Int} (P : Nat → List Int) (c : Nat → Int) (hP : ∀ i, (P i).length ≤ i + 1) (k : Nat) : (sumP p P c k).length ≤ k := by
  induction k with
  | zero => exact Nat.le_refl _
  | succ k ih =>
    have := padd_len p (sumP p P c k) (P k) (c k)
    have := hP k
    rw [sumP]
    omega
/-- The numbers of the kernel of a. -/
def kerN (p : Int) (l : List Int) (a : Int) (k : Nat) : Int := valF p a (mP p l k) * invF p (mNorm p l (mP p l k) 0) % p
def kerP (p : Int) (l : List Int) (n : Nat) (a : Int) : List Int := sumP p (mP p l) (kerN p l a) (n + 1)
theorem kerN_in {p : Int} (hp : Pm p) (l : List Int) (a : Int) (k : Nat) : 0 ≤ kerN p l a k ∧ kerN p l a k < p := emodB hp.pos _
theorem kerP_nm {p : Int} (hp : Pm p) (l : List Int) (n : Nat) (a : Int) : Nm p (kerP p l n a) := sumP_nm hp _ _ _
theorem kerP_len {p : Int} (hp : Pm p) (l : List Int) (n : Nat) (a : Int) : (kerP p l n a).length ≤ n + 1 := sumP_len _ _ (mP_len hp l) _
end Go.Proofs.Ytfbnkebgdmfcfaa.Pr
