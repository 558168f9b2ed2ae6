/- Texts of this session in one: what functions of the program compute, and plain facts of it, under the conditions that each theorem names. -/
import Derived.Deep.RegionHeld
import Derived.RangeFuncBound
import Derived.RangeFuncCalls
import Derived.RangeFuncFrom
import Derived.Test.YtfbnkebgdmfcfaaKWeightsFor1
import Derived.Test.YtfbnkebgdmfcfaaKWeightsFor2
import Derived.Test.YtfbnkebgdmfcfaaKWeightsFor4
import Derived.Test.YtfbnkebgdmfcfaaKWeightsFor7
import Derived.Test.YtfbnkebgdmfcfaaKWeightsFor8
namespace Go.Proofs.Ytfbnkebgdmfcfaa.Pr
/- The reference's Hankel determinant: printed by a program of this session; its last call by hand (the rows are handed over to what sets their slots). -/
open Go.RowKit Go.Proofs.YtfbnkebgdmfcfaaW.PrintWords Go.Proofs.YtfbnkebgdmfcfaaW.PrintLast Go.Proofs.YtfbnkebgdmfcfaaW.PrintMore
attribute [local go_sem] max2_int min2_int max_two min_two max_three min_three max_four min_four   -- for this text's walks alone
set_option linter.unusedVariables false
set_option linter.unusedSimpArgs false
/-! ### spec_l02Hankel: function 137 -/
def spec_l02Hankel.l0 : Nat → Int → List (List Int) → Int → Int → List Int → Option (Int)
 | 0, _, _, _, _, _ => none
 | k + 1, x1, x5, x6, x134000, x134001 => if x6 < x1 then (if 0 ≤ x6 then (if x6 ≤ (wrap64 (x6 + x1)) then (if (wrap64 (x6 + x1)) ≤ (x134001.length : Int) then ((spec_l01Own.f ((x134001.take ((wrap64 (x6 + x1)) : Int).toNat).drop (x6 : Int).toNat)).bind fun t138 => (if x5.length < 5864062014805 then (spec_l02Hankel.l0 k x1 (x5 ++ [t138]) (wrap64 (x6 + 1)) x134000 x134001) else (none))) else (none)) else (none)) else (none)) else ((spec_l02Det.f k x134000 x5).bind fun t144 => (some t144))
def spec_l02Hankel.f (k : Nat) (a0_0 : Int) (l0_1 : List Int) (a1 : Int) : Option (Int) := spec_l02Hankel.l0 k a1 (([] : List (List Int))) 0 a0_0 l0_1
set_option maxHeartbeats 8000000 in
set_option maxRecDepth 100000 in
theorem spec_l02Hankel.calls (k : Nat) (a0_0 : Int) (A0_1 : Option Addr) (c0_1 : Nat) (l0_1 : List Int) (a1 : Int) (r : Int) (w : World) (hr0_1 : Kd.C (Kd.int .i64) w A0_1 l0_1.length l0_1) (hc0_1 : l0_1.length ≤ c0_1) (h : spec_l02Hankel.f k a0_0 l0_1 a1 = some r) :
  Calls Try.prog 137 #[.agg #[.int .i64 a0_0, .slice A0_1 l0_1.length c0_1], .int .i64 a1] w fun e w' => e = .returned (.int .i64 r) ∧ Below w.heap.size w w' := by
 have hu31 := Try.underlying40
 have HR0_1 := zA hr0_1
 have HC0_1 := zA hc0_1
 clear hr0_1 hc0_1
 have HB := zA (Below.refl w.heap.size w)
 have H : (spec_l02Hankel.l0 k a1 (([] : List (List Int))) 0 a0_0 l0_1) = some r := h
 clear h
 obtain ⟨y134, hy134⟩ : ∃ y_ : List (List Int), y_ = (([] : List (List Int))) := ⟨_, rfl⟩
 replace H : (spec_l02Hankel.l0 k a1 y134 0 a0_0 l0_1) = some r := by first | (rw [hy134]; with_reducible exact H) | (have H2_ := (Option.bind_some _ _).symm.trans H; rw [hy134]; with_reducible exact H2_) | (have H2_ := (Option.bind_some _ _).symm.trans H; with_reducible exact H2_) | with_reducible exact H | (rw [hy134]; exact H) | exact H
 have Ny134 := zA hy134
 clear hy134
 have H' := zA H
 clear H
 go_enter Try.func137, Try.ntmps137
 go_wp2_with (first | ((with_reducible refine gate_dst (N := 2) rfl ?_); refine box_event ?hg (N := 2) ?hd (cs := #[.int .i64 a0_0, .slice A0_1 l0_1.length c0_1]) (t := 40) ?hr ?_; (case hd => rfl); (case hg => rfl); (case hr => first | (go_simp; done) | (go_simp; rfl)); intro gb133 hg w3 hbox hb; have n0_ := xH HB hb; have n1_ := zA (hbox); have n2_ := zA ((by rw [hg]; exact (below_size (uH HB.out)) : w.heap.size ≤ gb133)); have n3_ := zA ((by rw [hg]; exact (below_size (uH HB.out)) : w.heap.size ≤ gb133)); clear HB; have HB := n0_; have BK133 := n1_; have GW133 := n2_; have GE133 := n3_; have := geI GE133; clear n0_ n1_ n2_ n3_ hb hbox hg) | ((with_reducible refine gate_dst (N := 7) rfl ?_); refine Kd.S_lit (Kd.slice 2 (Kd.int .i64)) _ 22 ?hg (N := 7) ?hd (xs := ([] : List (List Int))) (inner := []) (ok := fun _ => True) (okp := fun _ => True) ?hr ?hp (fun _ hk => hk) trivial (Below.refl _ _) (Nat.le_refl _) (by simp) ?_; (case hd => rfl); (case hg => rfl); (case hr => first | (go_simp; done) | (go_simp; rfl)); (case hp => exact (Reps.none _ _)); intro v135 w4 ho5 hb hg_ hnew_; clear hg_ hnew_; (first | rw [← Ny134.out] at ho5 | (simp only [Int.reduceToNat] at ho5; rw [← Ny134.out] at ho5)); have n0_ := zA (Kd.S_lower ho5 (below_size (uH HB.out))); have n1_ := xB BK133 hb; have n2_ := xH HB hb; clear BK133 HB; have HO136 := n0_; have BK133 := n1_; have HB := n2_; clear n0_ n1_ n2_ hb ho5))
 go_loopg [5, 6] k (fun kq v5 v6 w' => ∃ (x5_1 : List (List Int)) (x6_1 : Int), v6 = .int .i64 x6_1 ∧ Aside0 (spec_l02Hankel.l0 kq a1 x5_1 x6_1 a0_0 l0_1 = some r) ∧ Aside0 (kq ≤ k) ∧ Aside0 (Kd.S (Kd.slice 2 (Kd.int .i64)) 22 w' w.heap.size (fun _ => True) v5 x5_1) ∧ Aside0 (w'.heap[gb133]? = some (.cells #[.int .i64 a0_0, (.slice A0_1 l0_1.length c0_1)] 40 (0, 0))) ∧ Aside0 (Below w.heap.size w w'))
 case atStart => exact ⟨(y134), (0), (by first | rfl | (simp; done) | (simp [*]; done)), H', ⟨Nat.le_refl _⟩, ⟨by (with_reducible repeat (first | apply Kd.S_alloc | apply Kd.S_drewN | apply Kd.S_drew)); exact HO136.out⟩, ⟨uB BK133.out⟩, ⟨uH HB.out⟩⟩
 case round =>
  clear H'
  try clear c1
  try clear p2
  obtain ⟨x5_1, x6_1, rfl, HA, HK1, HO_5, BK133, HB⟩ := hrel
  cases gk with
  | zero => exact absurd HA.out (by simp [spec_l02Hankel.l0])
  | succ k1 =>
   have H := HA.out
   clear HA
   simp only [spec_l02Hankel.l0] at H
   by_cases c6 : x6_1 < a1
   ·rw [if_pos c6] at H
    have c6b0 : decide (x6_1 < a1) = true := decide_eq_true c6
    clear c6
    by_cases c7 : 0 ≤ x6_1
    ·rw [if_pos c7] at H
     have c7b0 := eq_true c7
     have c7b1 : decide (0 ≤ x6_1) = true := decide_eq_true c7
     clear c7
     by_cases c8 : x6_1 ≤ (wrap64 (x6_1 + a1))
     ·rw [if_pos c8] at H
      have c8b0 := eq_true c8
      have c8b1 : decide (x6_1 ≤ (wrap64 (x6_1 + a1))) = true := decide_eq_true c8
      by_cases c9 : (wrap64 (x6_1 + a1)) ≤ (l0_1.length : Int)
      ·rw [if_pos c9] at H
       have c9b0 := eq_true c9
       have c9b1 : decide ((wrap64 (x6_1 + a1)) ≤ (l0_1.length : Int)) = true := decide_eq_true c9
       replace H := Option.bind_eq_some_iff.mp H
       obtain ⟨t138, A100, H⟩ := H
       replace H : (if x5_1.length < 5864062014805 then (spec_l02Hankel.l0 k1 a1 (x5_1 ++ [t138]) (wrap64 (x6_1 + 1)) a0_0 l0_1) else (none)) = some r := H
       have A10 := zA A100
       clear A100
       by_cases c11 : x5_1.length < 5864062014805
       ·rw [if_pos c11] at H
        have LMc11 := zA c11
        clear c11
        obtain ⟨y141, hy141⟩ : ∃ y_ : List (List Int), y_ = (x5_1 ++ [t138]) := ⟨_, rfl⟩
        replace H : (spec_l02Hankel.l0 k1 a1 y141 (wrap64 (x6_1 + 1)) a0_0 l0_1) = some r := by first | (rw [hy141]; with_reducible exact H) | (have H2_ := (Option.bind_some _ _).symm.trans H; rw [hy141]; with_reducible exact H2_) | (have H2_ := (Option.bind_some _ _).symm.trans H; with_reducible exact H2_) | with_reducible exact H | (rw [hy141]; exact H) | exact H
        have Ny141 := zA hy141
        clear hy141
        have H' := zA H
        clear H
        have hcz12_0 : wr.cell? ⟨gb133, 0, none⟩ = some (.int .i64 a0_0) := (blk_cell BK133.out 0).trans rfl
        have hcz12_1 : wr.cell? ⟨gb133, 1, none⟩ = some (.slice A0_1 l0_1.length c0_1) := (blk_cell BK133.out 1).trans rfl
        have hfz12_0 := blk_frozen BK133.out 0
        have hfz12_1 := blk_frozen BK133.out 1
        obtain ⟨i013, hi013, _, hsz13, _⟩ := info_parts info2
        obtain ⟨A13, hcut13, hA13, hC13⟩ := print_mid_of (P := Try.prog) (Value.int .i64) 0 22 2 .i64 .i64 Try.underlying22 hi013 hsz13 A0_1 c0_1 l0_1 x6_1 (wrap64 (x6_1 + a1)) (of_decide_eq_true (by first | (with_reducible assumption) | assumption)) (by first | omega | exact of_decide_eq_true (by first | (with_reducible assumption) | assumption)) (of_decide_eq_true (by first | (with_reducible assumption) | assumption)) HC0_1.out
        have HR137 := zA (Kd.C_of_reads (h1 := fun _ => rfl) (hA13 _ (Kd.reads_of_C HR0_1.out)))
        have HC137 := zA hC13
        clear hA13 hC13 hi013 hsz13
        go_wp2_with (first | ((with_reducible refine gate_callee (f := 62) rfl ?_); refine goesL_ (some 21) rfl rfl Try.func62 (by kernel_rfl) rfl #[.slice A13 ((l0_1.take ((wrap64 (x6_1 + a1)) : Int).toNat).drop (x6_1 : Int).toNat).length (c0_1 - x6_1.toNat)] rfl (by (try simp only [la, lb, lc]); first | done | (rw [show ((l0_1.take ((wrap64 (x6_1 + a1)) : Int).toNat).drop (x6_1 : Int).toNat).length = ((wrap64 (x6_1 + a1)).toNat - x6_1.toNat) from (by rw [List.length_drop, List.length_take]; have h_ : ((wrap64 (x6_1 + a1)) : Int) ≤ (l0_1.length : Int) := of_decide_eq_true (by first | (with_reducible assumption) | assumption); omega)] <;> rfl) | rfl | (simp only [ld, le]; rfl)) ?_; (with_reducible refine (spec_l01Own.calls _ _ ((l0_1.take ((wrap64 (x6_1 + a1)) : Int).toNat).drop (x6_1 : Int).toNat) t138 _ ?side1 ?side2 A10.out).mono ?_); (case side1 => exact uC ((Kd.C_below HR137.out HB.out))); (case side2 => exact HC137.out); rintro e w14 ⟨v139, rfl, ho0, hb⟩; refine ⟨_, rfl, ?_⟩; have n0_ := zA (Kd.S_elder' (by (with_reducible repeat (first | apply Kd.S_alloc | apply Kd.S_drewN | apply Kd.S_drew)); exact HO_5.out) (Kd.R_base ho0) hb); have n1_ := zA (Kd.R_lower ho0 (below_size (uH HB.out))); have n2_ := xB BK133 hb; have n3_ := xH HB hb; clear HO_5 BK133 HB; have HO_5 := n0_; have HO140 := n1_; have BK133 := n2_; have HB := n3_; clear n0_ n1_ n2_ n3_; (try clear hb); (try clear hb2); (try clear hk); (try clear hi); (try clear ho0); obtain ⟨Ao16, co16, eo16⟩ := Kd.R_slice HO140.out; subst eo16) | ((with_reducible refine gate_builtin (b := .append) (xs := #[.tmp 13, .tmp 22]) rfl ?_); at_builtin; refine Kd.S_append (Kd.slice 2 (Kd.int .i64)) (w0 := w) w.heap.size rfl (.tmp 13) (.tmp 22) 87 22 (.slice none 0 0) 24 rfl Try.underlying87 info22 rfl (by decide) (by omega) u5 x5_1 t138 [.slice Ao16 t138.length co16] (fun _ => True) (fun k_ => some k_ = (.slice Ao16 t138.length co16 : Value).ownBlock) rfl rfl ?aP (fun k_ hk_ => ((Kd.R_mono (ok' := fun k_ => ((fun _ => True)) k_ ∧ some k_ ≠ (u5 : Value).ownBlock) (Kd.R_apart' (HO140.out) (Kd.S_typed HO_5.out) (by decide)) (fun k_ hk => ⟨trivial, hk.2⟩))).1 k_ hk_.symm) ?aF ?aO ?aB ?aS ?aL ?_; (case aP => exact Kd.M_row (Kd.R_mono (Kd.R_tight rfl (Kd.R_mono (ok' := fun k_ => ((fun _ => True)) k_ ∧ some k_ ≠ (u5 : Value).ownBlock) (Kd.R_apart' (HO140.out) (Kd.S_typed HO_5.out) (by decide)) (fun k_ hk => ⟨trivial, hk.2⟩))) (fun _ h_ => h_))); (case aB => exact (uH HB.out)); (case aF => exact (fun _ _ => trivial)); (case aO => exact (by (with_reducible repeat (first | apply Kd.S_alloc | apply Kd.S_drewN | apply Kd.S_drew)); exact Kd.S_mono HO_5.out (fun k_ hk => ⟨trivial, fun e_ => hk.2 e_⟩))); (case aS => exact (below_size (uH HB.out))); (case aL => have := LMc11.out; omega); intro v142 w15 ho hb hg hat; rw [← Ny141.out] at ho; have n0_ := zA (blk_grown (g := gb133) (o := .cells #[.int .i64 a0_0, .slice A0_1 l0_1.length c0_1] 40 (0, 0)) (uB BK133.out) hg (Kd.S_ne HO_5.out BK133.out (by decide))); have n1_ := zA (hb); have n2_ := zA (ho); clear BK133 HB HO_5 HO140; have BK133 := n0_; have HB := n1_; have HO143 := n2_; clear n0_ n1_ n2_ ho hb hg hat))
        go_roundg k1
        case measure => have := HK1.out; omega
        case rel => exact ⟨(y141), (wrap64 (x6_1 + 1)), (by first | rfl | (simp; done) | (simp [*]; done)), H', ⟨by have := HK1.out; omega⟩, ⟨by (with_reducible repeat (first | apply Kd.S_alloc | apply Kd.S_drewN | apply Kd.S_drew)); exact HO143.out⟩, ⟨uB BK133.out⟩, ⟨uH HB.out⟩⟩
       ·rw [if_neg c11] at H
        exact absurd H (by simp)
      ·rw [if_neg c9] at H
       exact absurd H (by simp)
     ·rw [if_neg c8] at H
      exact absurd H (by simp)
    ·rw [if_neg c7] at H
     exact absurd H (by simp)
   ·rw [if_neg c6] at H
    have c6b0 : decide (x6_1 < a1) = false := decide_eq_false c6
    clear c6
    replace H := Option.bind_eq_some_iff.mp H
    obtain ⟨t144, A170, H⟩ := H
    replace H : (some t144) = some r := H
    have A17 := zA A170
    clear A170
    obtain rfl := Option.some.inj H
    have hcz18_0 : wr.cell? ⟨gb133, 0, none⟩ = some (.int .i64 a0_0) := (blk_cell BK133.out 0).trans rfl
    have hcz18_1 : wr.cell? ⟨gb133, 1, none⟩ = some (.slice A0_1 l0_1.length c0_1) := (blk_cell BK133.out 1).trans rfl
    have hfz18_0 := blk_frozen BK133.out 0
    have hfz18_1 := blk_frozen BK133.out 1
    obtain ⟨Ao19, co19, eo19⟩ := Kd.S_slice HO_5.out
    subst eo19
    go_wp2_with (first | ((with_reducible refine gate_callee (f := 151) rfl ?_); refine goesL_ (some 27) rfl rfl Try.func151 (by kernel_rfl) rfl #[.int .i64 a0_0, .slice Ao19 x5_1.length co19] rfl (by (try simp only [la, lb, lc]); first | done | rfl | (simp only [ld, le]; rfl)) ?_; (with_reducible refine (spec_l02Det.calls k1 a0_0 _ x5_1 t144 w _ (fun _ => True) ?side1 ?side2 A17.out).mono ?_); (case side1 => exact (uH HB.out)); (case side2 => exact (uR (Kd.S_R HO_5.out))); rintro e w20 ⟨rfl, hb⟩; refine ⟨_, rfl, ?_⟩; clear HO_5 BK133 HB; have HB := zA hb; clear hb))
    go_ret
    exact ⟨by first | rfl | (simp [errW_none, errW_some] <;> rfl) | (simp [*, errW_none, errW_some] <;> rfl), uH HB.out⟩
/-! ### spec_l02Order: function 91 -/
def spec_l02Order.l0 : Nat → Int → Int → List Int → Option (Int)
 | 0, _, _, _ => none
 | k + 1, x3, x138000, x138001 => if x3 < (wrap64 (Int.tdiv (wrap64 ((x138001.length : Int) + 1)) 2)) then ((spec_l02Hankel.f k x138000 x138001 (wrap64 (x3 + 1))).bind fun t138 => (if t138 = 0 then (some x3) else (spec_l02Order.l0 k (wrap64 (x3 + 1)) x138000 x138001))) else (some x3)
def spec_l02Order.f (k : Nat) (a0_0 : Int) (l0_1 : List Int) : Option (Int) := spec_l02Order.l0 k 0 a0_0 l0_1
set_option maxHeartbeats 8000000 in
set_option maxRecDepth 100000 in
theorem spec_l02Order.calls (k : Nat) (a0_0 : Int) (A0_1 : Option Addr) (c0_1 : Nat) (l0_1 : List Int) (r : Int) (w : World) (hr0_1 : Kd.C (Kd.int .i64) w A0_1 l0_1.length l0_1) (hc0_1 : l0_1.length ≤ c0_1) (h : spec_l02Order.f k a0_0 l0_1 = some r) :
  Calls Try.prog 91 #[.agg #[.int .i64 a0_0, .slice A0_1 l0_1.length c0_1]] w fun e w' => e = .returned (.int .i64 r) ∧ Below w.heap.size w w' := by
 have hu40 := Try.underlying40
 have HR0_1 := zA hr0_1
 have HC0_1 := zA hc0_1
 clear hr0_1 hc0_1
 have HB := zA (Below.refl w.heap.size w)
 have H : (spec_l02Order.l0 k 0 a0_0 l0_1) = some r := h
 clear h
 have H' := zA H
 clear H
 go_enter Try.func91, Try.ntmps91
 go_wp2_with (first | ((with_reducible refine gate_dst (N := 1) rfl ?_); refine bx 1 #[.int .i64 a0_0, .slice A0_1 l0_1.length c0_1] 40 ?_; intro gb137 hg w2 hbox hb; have BK137 := zA (hbox); have GW137 := gq HB hg; have GE137 := gq HB hg; replace HB := xH HB hb; have := geI GE137; clear hb hbox hg))
 go_loopg [3] k (fun kq v3 w' => ∃ (x3_1 : Int), v3 = .int .i64 x3_1 ∧ Aside0 (spec_l02Order.l0 kq x3_1 a0_0 l0_1 = some r) ∧ Aside0 (kq ≤ k) ∧ Aside0 (w'.heap[gb137]? = some (.cells #[.int .i64 a0_0, (.slice A0_1 l0_1.length c0_1)] 40 (0, 0))) ∧ Aside0 (Below w.heap.size w w'))
 case atStart => exact ⟨(0), (by first | rfl | (simp; done) | (simp [*]; done)), H', ⟨Nat.le_refl _⟩, ⟨uB BK137.out⟩, ⟨uH HB.out⟩⟩
 case round =>
  clear H'
  try clear p2
  obtain ⟨x3_1, rfl, HA, HK1, BK137, HB⟩ := hrel
  cases gk with
  | zero => exact absurd HA.out (by simp [spec_l02Order.l0])
  | succ k1 =>
   have H := HA.out
   clear HA
   simp only [spec_l02Order.l0] at H
   by_cases c3 : x3_1 < (wrap64 (Int.tdiv (wrap64 ((l0_1.length : Int) + 1)) 2))
   rotate_left
   ·rw [if_neg c3] at H
    have c3b0 : decide (x3_1 < (wrap64 (Int.tdiv (wrap64 ((l0_1.length : Int) + 1)) 2))) = false := decide_eq_false c3
    clear c3
    obtain rfl := Option.some.inj H
    have hcz10_0 := bc BK137 0
    have hcz10_1 := bc BK137 1
    have hfz10_0 := bf BK137 0
    have hfz10_1 := bf BK137 1
    go_wp2
    go_ret
    exact ⟨by first | rfl | (simp [errW_none, errW_some] <;> rfl) | (simp [*, errW_none, errW_some] <;> rfl), uH HB.out⟩

   rw [if_pos c3] at H
   have c3b0 : decide (x3_1 < (wrap64 (Int.tdiv (wrap64 ((l0_1.length : Int) + 1)) 2))) = true := decide_eq_true c3
   clear c3
   replace H := Option.bind_eq_some_iff.mp H
   obtain ⟨t138, A40, H⟩ := H
   replace H : (if t138 = 0 then (some x3_1) else (spec_l02Order.l0 k1 (wrap64 (x3_1 + 1)) a0_0 l0_1)) = some r := H
   have A4 := zA A40
   clear A40
   by_cases c5 : t138 = 0
   rotate_left
   ·rw [if_neg c5] at H
    have c5b0 : (t138 == 0) = false := beq_eq_false_iff_ne.mpr c5
    have c5b1 : (t138 != 0) = true := bne_iff_ne.mpr c5
    have H' := zA H
    clear H
    have hcz8_0 := bc BK137 0
    have hcz8_1 := bc BK137 1
    have hfz8_0 := bf BK137 0
    have hfz8_1 := bf BK137 1
    go_wp2_with (first | (go_at_call 137; (with_reducible refine (spec_l02Hankel.calls k1 a0_0 _ _ l0_1 (wrap64 (x3_1 + 1)) t138 _ ?side1 ?side2 A4.out).mono ?_); (case side1 => exact uC ((Kd.C_below HR0_1.out HB.out))); (case side2 => exact HC0_1.out); rintro e w9 ⟨rfl, hb⟩; replace BK137 := xB BK137 hb; replace HB := xH HB hb; (try clear hb); (try clear hb2); (try clear hk); (try clear hi)))
    go_roundg k1
    case measure => have := HK1.out; omega
    case rel => exact ⟨(wrap64 (x3_1 + 1)), (by first | rfl | (simp; done) | (simp [*]; done)), H', ⟨by have := HK1.out; omega⟩, ⟨uB BK137.out⟩, ⟨uH HB.out⟩⟩
   rw [if_pos c5] at H
   have c5b0 : (t138 == 0) = true := beq_iff_eq.mpr c5
   have c5b1 : (t138 != 0) = false := bne_eq_false_iff_eq.mpr c5
   clear c5
   obtain rfl := Option.some.inj H
   have hcz6_0 := bc BK137 0
   have hcz6_1 := bc BK137 1
   have hfz6_0 := bf BK137 0
   have hfz6_1 := bf BK137 1
   go_wp2_with (first | (go_at_call 137; (with_reducible refine (spec_l02Hankel.calls k1 a0_0 _ _ l0_1 (wrap64 (x3_1 + 1)) t138 _ ?side1 ?side2 A4.out).mono ?_); (case side1 => exact uC ((Kd.C_below HR0_1.out HB.out))); (case side2 => exact HC0_1.out); rintro e w7 ⟨rfl, hb⟩; replace BK137 := xB BK137 hb; replace HB := xH HB hb; (try clear hb); (try clear hb2); (try clear hk); (try clear hi)))
   go_ret
   exact ⟨by first | rfl | (simp [errW_none, errW_some] <;> rfl) | (simp [*, errW_none, errW_some] <;> rfl), uH HB.out⟩
/- field.value: the value of a polynomial, read from the last number on: what the call answers, for every list within the reach and every p other than 0. -/
open Go.RowKit Go.Shelf Go.Proofs.YtfbnkebgdmfcfaaW.PrintWords Go.Proofs.YtfbnkebgdmfcfaaW.PrintLast Go.Proofs.YtfbnkebgdmfcfaaW.PrintMore
attribute [local go_sem] Oper.semAt_some
/-- One round. -/
def valStep (p x o c : Int) : Int := Int.tmod (wrap64 (Int.tmod (wrap64 (wrap64 (o * x) + c)) p + p)) p
def valOf (p x : Int) (ys : List (Int × Int)) : Int := ys.foldl (fun o y => valStep p x o y.2) 0
theorem valOf_snoc (p x : Int) (ys : List (Int × Int)) (y : Int × Int) : valOf p x (ys ++ [y]) = valStep p x (valOf p x ys) y.2 := by simp [valOf]
def impl_field_value.f (p : Int) (l : List Int) (x : Int) : Option Int := if p = 0 then none else if l.length ≤ 17592186040320 then some (valOf p x (upto (bk l l.length) l.length)) else none

theorem cell_of_box_v {W : World} {B : Nat} {v : Value} {t : TypeId} (h : W.heap[B]? = some (.cells #[v] t (0, 0))) : W.cell? ⟨B, 0, none⟩ = some v ∧ W.frozen? ⟨B, 0, none⟩ = false := by
  constructor <;> simp [World.cell?, World.frozen?, h]
theorem cell_new_v (W : World) (v : Value) (t : TypeId) : (W.alloc (.cells #[v] t)).cell? ⟨W.heap.size, 0, none⟩ = some v ∧ (W.alloc (.cells #[v] t)).frozen? ⟨W.heap.size, 0, none⟩ = false :=
  cell_of_box_v (World.alloc_heap_new W _)
theorem cell_alloc_v {W : World} {a : Addr} {v : Value} (o : Obj) (h : W.cell? a = some v) : (W.alloc o).cell? a = some v := cell_kept h (World.grownBy_alloc W o none) (fun r e => by cases e)
theorem frozen_alloc_v {W : World} {a : Addr} {v : Value} (o : Obj) (h : W.cell? a = some v) (hf : W.frozen? a = false) : (W.alloc o).frozen? a = false := (frozen_kept h (World.grownBy_alloc W o none) (fun r e => by cases e)).trans hf

set_option maxRecDepth 100000 in
set_option maxHeartbeats 2000000 in
theorem impl_field_value.calls_in (F : Fence) (n : Nat) (h1 : F.fn 110) (h2 : F.fn 145) (h3 : F.fn 154) (h4 : F.fn 122) (hro : F.round = none) (hn : 4 ≤ n)
    (hmod : ∀ (k m : Nat) (x y r : Int) (W : World), impl_field_mod.f x y = some r → CallsIn (F.inRound k) m Try.prog 122 #[.int .i64 x, .int .i64 y] W fun e W' => e = .returned (.int .i64 r) ∧ Drawn0 W W')
    (a0 : Int) (A1 : Option Addr) (c1 : Nat) (l1 : List Int) (a2 : Int) (hp : a0 ≠ 0) (hl : l1.length ≤ 17592186040320) (w : World) (hI : IntsB w.heap.size w (.slice A1 l1.length c1) l1) :
    CallsIn F n Try.prog 110 #[.int .i64 a0, .slice A1 l1.length c1, .int .i64 a2] w fun e W' => e = .returned (.int .i64 (valOf a0 a2 (upto (bk l1 l1.length) l1.length))) ∧ Below w.heap.size w W' := by
  have hn1 : 1 ≤ n := by omega
  refine callsIn_of_wp_marks Try.func110 rfl h1 ?_ hro
  simp only [Try.ntmps110, List.size_toArray, List.length_cons, List.length_nil, Nat.reduceAdd, Nat.reduceSub, Array.replicate_succ, Array.replicate_zero, List.push_toArray, List.append_toArray, List.nil_append, List.cons_append]
  gi_wp2_with (gi_at_call 145; refine (back_in F (n - 1) h2 hro _ _ _ _).mono ?_; rintro e w' ⟨rfl, rfl⟩)
  have c0 := cell_new_v w (.int .i64 a0) 82
  have c1' := cell_new_v (w.alloc (.cells #[.int .i64 a0] 82)) (.int .i64 a2) 2
  have c2 := cell_new_v ((w.alloc (.cells #[.int .i64 a0] 82)).alloc (.cells #[.int .i64 a2] 2)) (.int .i64 0) 2
  have c3 := cell_new_v (((w.alloc (.cells #[.int .i64 a0] 82)).alloc (.cells #[.int .i64 a2] 2)).alloc (.cells #[.int .i64 0] 2)) (.slice A1 l1.length c1) 22
  simp only [World.size_alloc] at c1' c2 c3
  have hB0 : Below w.heap.size w ((((w.alloc (.cells #[.int .i64 a0] 82)).alloc (.cells #[.int .i64 a2] 2)).alloc (.cells #[.int .i64 0] 2)).alloc (.cells #[.slice A1 l1.length c1] 22)) := ((((Below.refl _ w).alloc (Nat.le_refl _) _).alloc (by simp) _).alloc (by simp; omega) _).alloc (by simp; omega) _
  refine wpIn_rangeFunc_ownF hro hn1 (gf := 154) (lb := #[.pointer (some ⟨w.heap.size + 1 + 1 + 1, 0, none⟩)]) rfl h3 (enters_of Try.func154 (by kernel_rfl) rfl)
    (back_stops F (n - 1) h3 hro (by omega) (w.heap.size + 1 + 1 + 1) w.heap.size (.slice A1 l1.length c1) l1 (by omega) _ (by simp) (by simp; omega) c3.1 (hI.below hB0)) (fun h k => h.trans k)
    (fun W l o o' hl ho hc hw => ⟨belowK_b (by simp; omega) W l o o' hl ho hc hw, fun v hv => cell_kept hv (grownBy_putObj' _ l o') (fun r e => by cases e; exact ⟨_, ho, hc⟩)⟩) (Below.refl _ _) (fun _ => rfl)
    (fun pre W => ((W.cell? ⟨w.heap.size, 0, none⟩ = some (.int .i64 a0) ∧ W.cell? ⟨w.heap.size + 1, 0, none⟩ = some (.int .i64 a2)) ∧ (W.cell? ⟨w.heap.size + 1 + 1, 0, none⟩ = some (.int .i64 (valOf a0 a2 pre)) ∧ W.frozen? ⟨w.heap.size + 1 + 1, 0, none⟩ = false)) ∧ Below w.heap.size w W)
    (fun _ _ _ => False)
    (OwnFrom.and (Own.from (fun s A B row hs hg hr => ⟨⟨cell_kept hs.1.1 hg hr, cell_kept hs.1.2 hg hr⟩, cell_kept hs.2.1 hg hr, (frozen_kept hs.2.1 hg hr).trans hs.2.2⟩) _) (ownFrom_below (Nat.le_refl _) (by simp; omega)))
    (fun _ _ _ _ _ hs _ _ => hs)
    ⟨⟨⟨cell_alloc_v _ (cell_alloc_v _ (cell_alloc_v _ c0.1)), cell_alloc_v _ (cell_alloc_v _ c1'.1)⟩, cell_alloc_v _ c2.1, frozen_alloc_v _ c2.1 c2.2⟩, hB0⟩
    (fun x => { tmps := #[.int .i64 a0, .slice A1 l1.length c1, .int .i64 a2, .pointer (some ⟨w.heap.size, 0, none⟩), undef, .pointer (some ⟨w.heap.size + 1, 0, none⟩), .int .i64 0, .pointer (some ⟨w.heap.size + 1 + 1, 0, none⟩), undef, .int .i64 x.2, .slice A1 l1.length c1, .func (.func 154) #[] #[.pointer (some ⟨w.heap.size + 1 + 1 + 1, 0, none⟩)], .int .i64 x.1, .int .i64 x.2, undef, undef, undef, undef, undef, undef, undef, undef], defers := [] }) ?assign ?body ?done ?stop
  case assign =>
    intro l x W K hK
    gi_wp2
    exact hK
  case body =>
    rintro l pre x W ⟨⟨⟨hc0, hc1⟩, hc2, hf2⟩, hB⟩ _
    have hm : impl_field_mod.f a0 (wrap64 (wrap64 (valOf a0 a2 pre * a2) + x.2)) = some (valStep a0 a2 (valOf a0 a2 pre) x.2) := by
      unfold impl_field_mod.f valStep
      rw [if_neg hp]
    gi_wp2
    refine ⟨fun _ => by omega, (hmod _ _ _ _ _ _ hm).mono ?_⟩
    rintro e w' ⟨rfl, ⟨nd, rfl⟩⟩
    have d0 : (W.drewN nd).cell? ⟨w.heap.size + 1 + 1, 0, none⟩ = some (.int .i64 (valOf a0 a2 pre)) := hc2
    have d1 : (W.drewN nd).frozen? ⟨w.heap.size + 1 + 1, 0, none⟩ = false := hf2
    have d2 : (W.drewN nd).cell? ⟨w.heap.size, 0, none⟩ = some (.int .i64 a0) := hc0
    have d3 : (W.drewN nd).cell? ⟨w.heap.size + 1, 0, none⟩ = some (.int .i64 a2) := hc1
    have kO : KeepsOthers W (W.drewN nd) := ⟨Nat.le_refl _, fun _ _ h _ => h⟩
    have kB : Below w.heap.size W (W.drewN nd) := pw_below_drewN (Below.refl _ _) nd
    have oth : ∀ (g : Nat) (v v' : Value), g ≠ w.heap.size + 1 + 1 → (W.drewN nd).cell? ⟨g, 0, none⟩ = some v → ((W.drewN nd).setCell ⟨w.heap.size + 1 + 1, 0, none⟩ v').cell? ⟨g, 0, none⟩ = some v := by
      intro g v v' hg hv
      exact (World.cell?_setCell_far _ _ _ _ (fun e => hg e.symm)).trans hv
    gi_wp2
    exact ⟨kO.trans (KeepsOthers.setCell _ _ _), ⟨kB.setCell (p := ⟨w.heap.size + 1 + 1, 0, none⟩) (show w.heap.size ≤ w.heap.size + 1 + 1 from by omega) _, fun v hv => oth _ _ _ (by omega) hv⟩, ⟨⟨oth _ _ _ (by omega) d2, oth _ _ _ (by omega) d3⟩, by rw [valOf_snoc]; exact World.cell?_setCell_same' _ _ _ (by rw [d0]; rfl), by rw [World.frozen?_setCell]; exact d1⟩, (hB.trans kB).setCell (p := ⟨w.heap.size + 1 + 1, 0, none⟩) (show w.heap.size ≤ w.heap.size + 1 + 1 from by omega) _⟩
  case done =>
    rintro D ys W hD rfl ⟨⟨_, hc, _⟩, hB⟩ hK
    gi_wp2
    refine ⟨by simp, .inl ⟨_, _, rfl, run_takeDeferred hK, ?_⟩⟩
    exact ⟨_, results_tmp rfl _ _ _, rfl, hB.trans (belowK_b (w := w) (Nat.le_refl _) W D _ _ (by simp at hD; omega) hK rfl rfl)⟩
  case stop =>
    rintro D c pre W _ _ h _
    exact h.elim
/-- What a slice that came in holds, as the loop wants it. -/
theorem intsB_of_C {w : World} {A1 : Option Addr} {c1 : Nat} {l1 : List Int} (hr1 : Kd.C (Kd.int .i64) w A1 l1.length l1) (hc1 : l1.length ≤ c1) : IntsB w.heap.size w (.slice A1 l1.length c1) l1 := by
  have h := Kd.reads_of_C (enc := Value.int .i64) (d := (0 : Int)) (h1 := fun _ => rfl) hr1
  by_cases h0 : l1.length = 0
  · rw [List.length_eq_zero_iff] at h0
    subst h0
    exact .inl ⟨rfl, A1, c1, rfl⟩
  · obtain ⟨ad, rfl, hc⟩ := h.2.2 (by omega)
    refine .inr ⟨ad, c1, rfl, ?_, fun j hj => ?_⟩
    · have := World.block_lt_of_cell? w _ (hc 0 (by omega))
      rwa [add_block] at this
    · have := hc j hj
      rw [List.getD_eq_getElem?_getD] at this
      exact this
theorem impl_field_value.calls (a0 : Int) (A1 : Option Addr) (c1 : Nat) (l1 : List Int) (a2 : Int) (r : Int) (w : World) (hr1 : Kd.C (Kd.int .i64) w A1 l1.length l1) (hc1 : l1.length ≤ c1) (h : impl_field_value.f a0 l1 a2 = some r) :
    Calls Try.prog 110 #[.int .i64 a0, .slice A1 l1.length c1, .int .i64 a2] w fun e w' => e = .returned (.int .i64 r) ∧ Below w.heap.size w w' := by
  unfold impl_field_value.f at h
  split at h
  · cases h
  · rename_i hp
    split at h
    · rename_i hl
      cases h
      exact callsIn_wide.1 (impl_field_value.calls_in Fence.wide 4 trivial trivial trivial trivial rfl (by omega) (fun k m x y r W hm => (CallsIn.inRound k (callsIn_wide.2 (impl_field_mod.calls x y r W hm)))) a0 A1 c1 l1 a2 hp hl w (intsB_of_C hr1 hc1))
    · cases h
/-! ### impl_field_basis: function 76 -/
def impl_field_basis.f (k : Nat) (a0 : Int) (l1 : List Int) (a2 : Int) : Option (List Int) := (slices_Clone_ints.f l1).bind fun t1320 => ((slices_Delete_ints.f t1320 a2 (wrap64 (a2 + 1))).bind fun t1323 => ((impl_field_ofRoots.f k a0 t1323).bind fun t1326 => (if 0 ≤ a2 then (if a2 < (l1.length : Int) then ((impl_field_value.f a0 t1326 (rd l1 a2)).bind fun t1330 => ((impl_field_inverse.f k a0 t1330).bind fun t1331 => ((impl_field_times.f k a0 t1326 t1331).bind fun t1332 => (some t1332)))) else (none)) else (none))))
set_option maxHeartbeats 8000000 in
set_option maxRecDepth 100000 in
theorem impl_field_basis.calls (k : Nat) (a0 : Int) (A1 : Option Addr) (c1 : Nat) (l1 : List Int) (a2 : Int) (r : List Int) (w : World) (hr1 : Kd.C (Kd.int .i64) w A1 l1.length l1) (hc1 : l1.length ≤ c1) (h : impl_field_basis.f k a0 l1 a2 = some r) :
  Calls Try.prog 76 #[.int .i64 a0, .slice A1 l1.length c1, .int .i64 a2] w fun e w' => ∃ v0_ : Value, e = .returned (v0_) ∧ Kd.R (Kd.int .i64) 2 w' w.heap.size (fun _ => True) v0_ r ∧ Below w.heap.size w w' := by
 have HR1 := zA hr1
 have HC1 := zA hc1
 clear hr1 hc1
 have HB := zA (Below.refl w.heap.size w)
 have H : ((slices_Clone_ints.f l1).bind fun t1320 => ((slices_Delete_ints.f t1320 a2 (wrap64 (a2 + 1))).bind fun t1323 => ((impl_field_ofRoots.f k a0 t1323).bind fun t1326 => (if 0 ≤ a2 then (if a2 < (l1.length : Int) then ((impl_field_value.f a0 t1326 (rd l1 a2)).bind fun t1330 => ((impl_field_inverse.f k a0 t1330).bind fun t1331 => ((impl_field_times.f k a0 t1326 t1331).bind fun t1332 => (some t1332)))) else (none)) else (none))))) = some r := h
 clear h
 replace H := Option.bind_eq_some_iff.mp H
 obtain ⟨t1320, A40, H⟩ := H
 replace H : ((slices_Delete_ints.f t1320 a2 (wrap64 (a2 + 1))).bind fun t1323 => ((impl_field_ofRoots.f k a0 t1323).bind fun t1326 => (if 0 ≤ a2 then (if a2 < (l1.length : Int) then ((impl_field_value.f a0 t1326 (rd l1 a2)).bind fun t1330 => ((impl_field_inverse.f k a0 t1330).bind fun t1331 => ((impl_field_times.f k a0 t1326 t1331).bind fun t1332 => (some t1332)))) else (none)) else (none)))) = some r := H
 have A4 := zA A40
 clear A40
 replace H := Option.bind_eq_some_iff.mp H
 obtain ⟨t1323, A50, H⟩ := H
 replace H : ((impl_field_ofRoots.f k a0 t1323).bind fun t1326 => (if 0 ≤ a2 then (if a2 < (l1.length : Int) then ((impl_field_value.f a0 t1326 (rd l1 a2)).bind fun t1330 => ((impl_field_inverse.f k a0 t1330).bind fun t1331 => ((impl_field_times.f k a0 t1326 t1331).bind fun t1332 => (some t1332)))) else (none)) else (none))) = some r := H
 have A5 := zA A50
 clear A50
 replace H := Option.bind_eq_some_iff.mp H
 obtain ⟨t1326, A60, H⟩ := H
 replace H : (if 0 ≤ a2 then (if a2 < (l1.length : Int) then ((impl_field_value.f a0 t1326 (rd l1 a2)).bind fun t1330 => ((impl_field_inverse.f k a0 t1330).bind fun t1331 => ((impl_field_times.f k a0 t1326 t1331).bind fun t1332 => (some t1332)))) else (none)) else (none)) = some r := H
 have A6 := zA A60
 clear A60
 by_cases c7 : 0 ≤ a2
 rotate_left
 ·rw [if_neg c7] at H
  exact absurd H (by simp)

 rw [if_pos c7] at H
 have c7b0 : decide (0 ≤ a2) = true := decide_eq_true c7
 clear c7
 by_cases c8 : a2 < (l1.length : Int)
 rotate_left
 ·rw [if_neg c8] at H
  exact absurd H (by simp)
 rw [if_pos c8] at H
 have c8b0 : decide (a2 < (l1.length : Int)) = true := decide_eq_true c8
 clear c8
 replace H := Option.bind_eq_some_iff.mp H
 obtain ⟨t1330, A90, H⟩ := H
 replace H : ((impl_field_inverse.f k a0 t1330).bind fun t1331 => ((impl_field_times.f k a0 t1326 t1331).bind fun t1332 => (some t1332))) = some r := H
 have A9 := zA A90
 clear A90
 replace H := Option.bind_eq_some_iff.mp H
 obtain ⟨t1331, A100, H⟩ := H
 replace H : ((impl_field_times.f k a0 t1326 t1331).bind fun t1332 => (some t1332)) = some r := H
 have A10 := zA A100
 clear A100
 replace H := Option.bind_eq_some_iff.mp H
 obtain ⟨t1332, A110, H⟩ := H
 replace H : (some t1332) = some r := H
 have A11 := zA A110
 clear A110
 obtain rfl := Option.some.inj H
 go_enter Try.func76, Try.ntmps76
 go_wp2_with (first | ((with_reducible refine gate_callee (f := 73) rfl ?_); refine gL (some 10) Try.func73 #[.slice A1 l1.length c1] ?_; (with_reducible refine (slices_Clone_ints.calls _ _ l1 t1320 _ ?side1 ?side2 A4.out).mono ?_); (case side1 => exact uC HR1.out); (case side2 => exact HC1.out); rintro e w12 ⟨v1321, rfl, ho0, hb⟩; refine ⟨_, rfl, ?_⟩; have HO1322 := zA (Kd.R_lower ho0 (below_size (uH HB.out))); replace HB := xH HB hb; (try clear hb); (try clear hb2); (try clear hk); (try clear hi); (try clear ho0); obtain ⟨Ao13, co13, eo13⟩ := Kd.R_slice HO1322.out; subst eo13) | ((with_reducible refine gate_callee (f := 124) rfl ?_); refine gL (some 14) Try.func124 #[.slice Ao13 t1320.length co13, .int .i64 a2, .int .i64 (wrap64 (a2 + 1))] ?_; (with_reducible refine (slices_Delete_ints.calls (fun k_ => some k_ = (.slice Ao13 t1320.length co13 : Value).ownBlock) (.slice Ao13 t1320.length co13) t1320 a2 (wrap64 (a2 + 1)) t1323 w _ ?side1 ?side2 A5.out).mono ?_); (case side1 => repeat (first | (with_reducible first | exact HB.out | apply below_alloc | apply pw_below_drewN | apply below_drew1) | exact HB.out)); (case side2 => exact Kd.R_tight rfl HO1322.out); rintro e w14 ⟨v1324, rfl, ho0, hb, hkp⟩; refine ⟨_, rfl, ?_⟩; have HO1325 := zA (Kd.R_mono (ok' := fun k_ => True) ho0 (fun k_ hk_ => trivial)); replace HB := zA (hb); clear HO1322; (try clear hb); (try clear hkp); (try clear ho0); obtain ⟨Ao15, co15, eo15⟩ := Kd.R_slice HO1325.out; subst eo15) | ((with_reducible refine gate_callee (f := 123) rfl ?_); refine gL (some 15) Try.func123 #[.int .i64 a0, .slice Ao15 t1323.length co15] ?_; (with_reducible refine (impl_field_ofRoots.calls k a0 _ _ t1323 t1326 _ ?side1 ?side2 A6.out).mono ?_); (case side1 => exact uC ((Kd.R_reads' HO1325.out).2.2)); (case side2 => exact (Kd.R_reads' HO1325.out).2.1); rintro e w16 ⟨v1327, rfl, ho0, hb⟩; refine ⟨_, rfl, ?_⟩; have HO1328 := zA (Kd.R_lower (Kd.R_new' ho0 (Kd.R_lt (uR HO1325.out))) (below_size (uH HB.out))); replace HO1325 := zA (Kd.R_elder' (uR HO1325.out) (Kd.R_base ho0) hb); replace HB := xH HB hb; (try clear hb); (try clear hb2); (try clear hk); (try clear hi); (try clear ho0); have p1329 : 0 ≤ (a2 : Int) := of_decide_eq_true (by first | (with_reducible assumption) | assumption); have q1329 : a2 < (l1.length : Int) := of_decide_eq_true (by first | (with_reducible assumption) | assumption); obtain ⟨ad1329, e1329, hx1329_0⟩ := Kd.at_int HR1.out a2 p1329 q1329; cases e1329; replace hx1329_0 := hc HB hx1329_0; replace p1329 := eq_true p1329; replace q1329 := eq_true q1329; obtain ⟨Ao17, co17, eo17⟩ := Kd.R_slice HO1328.out; subst eo17) | ((with_reducible refine gate_callee (f := 110) rfl ?_); refine gL (some 25) Try.func110 #[.int .i64 a0, .slice Ao17 t1326.length co17, .int .i64 (rd l1 a2)] ?_; (with_reducible refine (impl_field_value.calls a0 _ _ t1326 (rd l1 a2) t1330 _ ?side1 ?side2 A9.out).mono ?_); (case side1 => exact uC ((Kd.R_reads' HO1328.out).2.2)); (case side2 => exact (Kd.R_reads' HO1328.out).2.1); rintro e w18 ⟨rfl, hb⟩; refine ⟨_, rfl, ?_⟩; replace HO1325 := xR HO1325 hb; replace HO1328 := xR HO1328 hb; replace HB := xH HB hb; (try clear hb); (try clear hb2); (try clear hk); (try clear hi)) | ((with_reducible refine gate_callee (f := 126) rfl ?_); refine gL (some 26) Try.func126 #[.int .i64 a0, .int .i64 t1330] ?_; (with_reducible refine (impl_field_inverse.calls k a0 t1330 t1331 _ A10.out).mono ?_); rintro e w' ⟨rfl, ⟨nd, rfl⟩⟩; refine ⟨_, rfl, ?_⟩) | ((with_reducible refine gate_callee (f := 125) rfl ?_); refine gL (some 27) Try.func125 #[.int .i64 a0, .slice Ao17 t1326.length co17, .int .i64 t1331] ?_; (with_reducible refine (impl_field_times.calls k a0 _ _ t1326 t1331 t1332 _ ?side1 ?side2 A11.out).mono ?_); (case side1 => exact uC ((Kd.R_reads' HO1328.out).2.2)); (case side2 => exact (Kd.R_reads' HO1328.out).2.1); rintro e w19 ⟨v1333, rfl, ho0, hb⟩; refine ⟨_, rfl, ?_⟩; have HO1334 := zA (Kd.R_lower (Kd.R_new' (Kd.R_new' ho0 (Kd.R_lt (uR HO1325.out))) (Kd.R_lt (uR HO1328.out))) (below_size (uH HB.out))); replace HO1325 := zA (Kd.R_elder' (uR HO1325.out) (Kd.R_base ho0) hb); replace HO1328 := zA (Kd.R_elder' (uR HO1328.out) (Kd.R_base ho0) hb); replace HB := xH HB hb; (try clear hb); (try clear hb2); (try clear hk); (try clear hi); (try clear ho0)))
 go_ret
 exact ⟨_, by first | rfl | (simp [errW_none, errW_some] <;> rfl) | (simp [*, errW_none, errW_some] <;> rfl), uR (Kd.R_mono HO1334.out (fun _ hk => trivial)), uH HB.out⟩
/- Values of polynomials: the program's and the reference's come to one number; no condition. -/
/-- The first k numbers from behind taken in. -/
def valG (p x : Int) (l : List Int) : Nat → Int
  | 0 => 0
  | k + 1 => (valG p x l k * x + l.getD (l.length - 1 - k) 0) % p
theorem valG_in {p : Int} (hp : Pm p) (x : Int) (l : List Int) (k : Nat) : 0 ≤ valG p x l k ∧ valG p x l k < p := by
  cases k with
  | zero => exact ⟨Int.le_refl _, hp.pos⟩
  | succ k => exact emodB hp.pos _
def valF (p x : Int) (l : List Int) : Int := valG p x l l.length
theorem valF_in {p : Int} (hp : Pm p) (x : Int) (l : List Int) : 0 ≤ valF p x l ∧ valF p x l < p := valG_in hp x l _
theorem valStep_eq {p x o c : Int} (hp : Pm p) (hx : 0 ≤ x ∧ x < p) (ho : 0 ≤ o ∧ o < p) (hc : 0 ≤ c ∧ c < p) : valStep p x o c = (o * x + c) % p := by
  have h := mulP hp ho.1 ho.2 hx.1 hx.2
  have ht := hp.top
  unfold valStep
  rw [wrap_id (x := o * x) (by omega) (by omega), wrap_id (x := o * x + c) (by omega) (by omega), go_mod hp]
theorem valOf_upto {p x : Int} (hp : Pm p) (hx : 0 ≤ x ∧ x < p) (l : List Int) (hl : Nm p l) (k : Nat) (hk : k ≤ l.length) : valOf p x (upto (bk l l.length) k) = valG p x l k := by
  induction k with
  | zero => rfl
  | succ k ih =>
    have hg := hl.get (i := l.length - 1 - k) (by omega)
    have hv := valG_in hp x l k
    rw [upto_succ, valOf_snoc, ih (by omega), valG]
    have e : (bk l l.length k).2 = l.getD (l.length - 1 - k) 0 := by simp [bk, List.getD_eq_getElem?_getD]
    rw [e, valStep_eq hp hx hv hg]
theorem implValue_eq {p x : Int} (hp : Pm p) (hx : 0 ≤ x ∧ x < p) (l : List Int) (hl : Nm p l) (hs : Sm l.length) : impl_field_value.f p l x = some (valF p x l) := by
  unfold impl_field_value.f
  unfold Sm at hs
  rw [if_neg hp.ne, if_pos (by omega), valOf_upto hp hx l hl l.length (Nat.le_refl _)]; rfl
theorem specAt_l0 {p x : Int} (hp : Pm p) (hx : 0 ≤ x ∧ x < p) (l : List Int) (hl : Nm p l) (hs : Sm l.length) (d : Nat) : ∀ k, k + d = l.length →
    Ev (fun n => spec_l01At.l0 n p l x (valG p x l k) ((l.length : Int) - 1 - (k : Int))) (valF p x l) := by
  induction d with
  | zero =>
    intro k hk
    refine Ev.step (fun n => by rw [spec_l01At.l0]) ?_
    refine Ev.neg (by omega) (Ev.some' ?_)
    rw [show k = l.length from by omega]; rfl
  | succ d ih =>
    intro k hk
    have hv := valG_in hp x l k
    have hg := hl.get (i := l.length - 1 - k) (by omega)
    have h := mulP hp hv.1 hv.2 hx.1 hx.2
    have ht := hp.top
    unfold Sm at hs
    have er : rd l ((l.length : Int) - 1 - (k : Int)) = l.getD (l.length - 1 - k) 0 := by
      rw [show (l.length : Int) - 1 - (k : Int) = ((l.length - 1 - k : Nat) : Int) from by omega, rd_nat]
    have ew : wrap64 ((l.length : Int) - 1 - (k : Int) - 1) = (l.length : Int) - 1 - ((k + 1 : Nat) : Int) := by rw [wrap_id (by omega) (by omega)]; omega
    refine Ev.step (fun n => by rw [spec_l01At.l0]) ?_
    rw [er, ew]
    clear er ew
    refine Ev.pos (by omega) (Ev.pos (by omega) (Ev.pos (by omega) (Ev.neg hp.ne ?_)))
    rw [wrap_id (x := valG p x l k * x) (by omega) (by omega), wrap_id (by omega) (by omega), tmod_pos (by omega)]
    exact ih (k + 1) (by omega)
theorem specAt_ev {p x : Int} (hp : Pm p) (hx : 0 ≤ x ∧ x < p) (l : List Int) (hl : Nm p l) (hs : Sm l.length) : Ev (fun n => spec_l01At.f n p l x) (valF p x l) := by
  unfold spec_l01At.f
  have h := specAt_l0 hp hx l hl hs l.length 0 (by omega)
  have hs' := hs
  unfold Sm at hs'
  rw [wrap_id (x := (l.length : Int) - 1) (by omega) (by omega)]
  rw [show (l.length : Int) - 1 - ((0 : Nat) : Int) = (l.length : Int) - 1 from by omega] at h
  exact h
end Go.Proofs.Ytfbnkebgdmfcfaa.Pr
