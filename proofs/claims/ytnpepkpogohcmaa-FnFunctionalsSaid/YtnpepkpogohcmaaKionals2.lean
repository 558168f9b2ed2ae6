/- Texts of this session in one: what functions of the program compute, and plain facts of it, under the conditions that each theorem names. -/
import Derived.Test.YtnpepkpogohcmaaKionals1
namespace Go.Proofs.Ytnpepkpogohcmaa.Pr
open Go.RowKit Go.Proofs.YtnpepkpogohcmaaW.PrintWords Go.Proofs.YtnpepkpogohcmaaW.PrintLast Go.Proofs.YtnpepkpogohcmaaW.PrintMore
attribute [local go_sem] max2_int min2_int max_two min_two max_three min_three max_four min_four   -- for this text's walks alone
set_option linter.unusedVariables false
set_option linter.unusedSimpArgs false
/-! ### impl_Moments_product: function 44 -/
def impl_Moments_product.l0 : Nat → List Int → Int → Int → List Int → Int → List Int → Option (Int × List Int)
 | 0, _, _, _, _, _, _ => none
 | k + 1, x1, x6, x498000, x498001, x500000, x500001 => if (wrap64 (x6 + (mx (x1.length : Int) 1))) ≤ (x498001.length : Int) then (if 0 ≤ x6 then (if x6 ≤ (x498001.length : Int) then ((impl_Moments_apply.f k x498000 (x498001.drop (x6 : Int).toNat) x1).bind fun t501 => (if x500001.length < 17592186044416 then (impl_Moments_product.l0 k x1 (wrap64 (x6 + 1)) x498000 x498001 x500000 (x500001 ++ [t501])) else (none))) else (none)) else (none)) else (some (x500000, x500001))
def impl_Moments_product.f (k : Nat) (a0_0 : Int) (l0_1 : List Int) (l1 : List Int) : Option (Int × List Int) := impl_Moments_product.l0 k l1 0 a0_0 l0_1 a0_0 ([] : List Int)
def impl_Moments_product.T5 : Bool × List (List Nat × List Nat) := (true, [([], []), ([0], [0]), ([], []), ([2], [2]), ([], []), ([4], [4]), ([], []), ([5, 6], [5, 6]), ([3, 7], [3, 7]), ([], []), ([8, 9], [8, 9]), ([10], [10]), ([1, 11, 10], [1, 11]), ([0, 1, 2, 3, 4, 5, 6, 7, 8, 9, 10, 11, 12], []), ([13, 12, 12, 0, 1, 2, 3, 4, 5, 6, 7, 8, 9, 10, 11, 12], [12, 13])])
def impl_Moments_product.B5 : List Nat := [0, 1, 0, 4, 0, 16, 0, 112, 252, 0, 1020, 2044, 4095, 8191, 16383]
theorem impl_Moments_product.tab5 : rtab .any (opsOf Try.f44 5) = impl_Moments_product.T5 := by kernel_rfl
theorem impl_Moments_product.bits5 : waitsOk impl_Moments_product.T5.2 impl_Moments_product.B5 = true := by kernel_rfl
set_option maxHeartbeats 8000000 in
set_option maxRecDepth 100000 in
theorem impl_Moments_product.calls (k : Nat) (a0_0 : Int) (A0_1 : Option Addr) (c0_1 : Nat) (l0_1 : List Int) (A1 : Option Addr) (c1 : Nat) (l1 : List Int) (r1 : Int) (r2 : List Int) (w : World) (hr0_1 : Kd.C (Kd.int .i64) w A0_1 l0_1.length l0_1) (hc0_1 : l0_1.length ≤ c0_1) (hr1 : Kd.C (Kd.int .i64) w A1 l1.length l1) (hc1 : l1.length ≤ c1) (h : impl_Moments_product.f k a0_0 l0_1 l1 = some (r1, r2)) :
  Calls Try.prog 44 #[.agg #[.int .i64 a0_0, .slice A0_1 l0_1.length c0_1], .slice A1 l1.length c1] w fun e w' => ∃ v1_ : Value, e = .returned (.agg #[.int .i64 r1, v1_]) ∧ Kd.R (Kd.int .i64) 2 w' w.heap.size (fun _ => True) v1_ r2 ∧ Below w.heap.size w w' := by
 have hu26 := Try.underlying26
 have HR0_1 := zA hr0_1
 have HC0_1 := zA hc0_1
 clear hr0_1 hc0_1
 have HR1 := zA hr1
 have HC1 := zA hc1
 clear hr1 hc1
 have HB := zA (Below.refl w.heap.size w)
 have H : (impl_Moments_product.l0 k l1 0 a0_0 l0_1 a0_0 ([] : List Int)) = some (r1, r2) := h
 clear h
 have H' := zA H
 clear H
 go_enter Try.func44, Try.ntmps44
 go_wp2_with (first | ((with_reducible refine gate_dst (N := 2) rfl ?_); refine bx 2 #[.int .i64 a0_0, .slice A0_1 l0_1.length c0_1] 26 ?_; intro gb497 hg w3 hbox hb; have BK497 := zA (hbox); have GW497 := gq HB hg; have GE497 := gq HB hg; replace HB := xH HB hb; have := geI GE497; clear hb hbox hg) | ((with_reducible refine gate_dst (N := 4) rfl ?_); refine bx 4 #[.int .i64 0, .slice none 0 0] 26 ?_; intro gb498 hg w4 hbox hb; have BK498 := zA (hbox); have GW498 := gq HB hg; have GE498 := gq HB hg; replace HB := xH HB hb; have NB497_498 := zA ((by rw [hg]; exact neL BK497 : gb497 ≠ gb498)); have NB498_497 := zA ((by rw [hg]; exact neG BK497 : gb498 ≠ gb497)); replace BK497 := xB BK497 hb; have := geI GE498; clear hb hbox hg; have hnb5 := NB497_498.out; have hnc5 := NB498_497.out; have hcz6_0 := bc BK497 0; have hcz6_1 := bc BK497 1; have hfz6_0 := bf BK497 0; have hfz6_1 := bf BK497 1) | ((with_reducible refine gate_dst (N := 5) rfl ?_); refine bx 5 #[.int .i64 0, .slice none 0 0] 26 ?_; intro gb499 hg w7 hbox hb; have BK499 := zA (hbox); have GW499 := gq HB hg; have GE499 := gq HB hg; replace HB := xH HB hb; have NB497_499 := zA ((by rw [hg]; exact neL BK497 : gb497 ≠ gb499)); have NB499_497 := zA ((by rw [hg]; exact neG BK497 : gb499 ≠ gb497)); replace BK497 := xB BK497 hb; have NB498_499 := zA ((by rw [hg]; exact neL BK498 : gb498 ≠ gb499)); have NB499_498 := zA ((by rw [hg]; exact neG BK498 : gb499 ≠ gb498)); replace BK498 := xB BK498 hb; have := geI GE499; clear hb hbox hg; have hnb8 := NB499_497.out; have hnc8 := NB497_499.out; have hnb9 := NB499_498.out; have hnc9 := NB498_499.out; have hcz10_0 := bc BK499 0; have hcz10_1 := bc BK499 1; have hfz10_0 := bf BK499 0; have hfz10_1 := bf BK499 1))
 go_loopg [6] k (fun kq v6 w' => ∃ (x6_1 : Int) (x500001_1 : List Int) (u500001 : Value), v6 = .int .i64 x6_1 ∧ Aside0 (impl_Moments_product.l0 kq l1 x6_1 a0_0 l0_1 a0_0 x500001_1 = some (r1, r2)) ∧ Aside0 (kq ≤ k) ∧ Aside0 (Kd.R (Kd.int .i64) 2 w' w.heap.size (fun _ => True) u500001 x500001_1) ∧ Aside0 (w'.heap[gb497]? = some (.cells #[.int .i64 a0_0, (.slice A0_1 l0_1.length c0_1)] 26 (0, 0))) ∧ Aside0 (w'.heap[gb498]? = some (.cells #[.int .i64 0, (.slice none 0 0)] 26 (0, 0))) ∧ Aside0 (w'.heap[gb499]? = some (.cells #[.int .i64 a0_0, u500001] 26 (0, 0))) ∧ Aside0 (Below w.heap.size w w'))
 case atStart => exact ⟨(0), (([] : List Int)), (.slice none 0 0), (by first | rfl | (simp; done) | (simp [*]; done)), H', ⟨Nat.le_refl _⟩, ⟨by first | exact Kd.R_nil _ _ _ _ _ | exact Kd.N_nil _ _ _ _ _ | exact Kd.V_nil _ _ _ _ _ | exact Kd.Q_nil _ _ _ _ _ | exact Kd.S_nil _ _ _ _ _⟩, ⟨by (repeat refine up1 ?_); refine blk_far ?_ NB497_499.out _; (repeat refine up1 ?_); refine blk_far ?_ NB497_499.out _; (repeat refine up1 ?_); exact BK497.out⟩, ⟨by (repeat refine up1 ?_); refine blk_far ?_ NB498_499.out _; (repeat refine up1 ?_); refine blk_far ?_ NB498_499.out _; (repeat refine up1 ?_); exact BK498.out⟩, ⟨by (repeat refine up1 ?_); refine blk_put (cs := #[.int .i64 a0_0, .slice none 0 0]) ?_ 1 _ rfl; (repeat refine up1 ?_); refine blk_put (cs := #[.int .i64 0, .slice none 0 0]) ?_ 0 _ rfl; (repeat refine up1 ?_); exact BK499.out⟩, ⟨uH HB.out⟩⟩
 case round =>
  clear H'
  (try clear c1);(try clear p2);(try clear c4);(try clear c5);(try clear c8);(try clear c9);(try clear hcz10_0);(try clear hcz10_1);(try clear hcz6_0);(try clear hcz6_1);(try clear hfz10_0);(try clear hfz10_1);(try clear hfz6_0);(try clear hfz6_1)
  obtain ⟨x6_1, x500001_1, u500001, rfl, HA, HK1, HO_500001, BK497, BK498, BK499, HB⟩ := hrel
  cases gk with
  | zero => exact absurd HA.out (by simp [impl_Moments_product.l0])
  | succ k1 =>
   have H := HA.out
   clear HA
   simp only [impl_Moments_product.l0] at H
   obtain ⟨ji11, hji11⟩ : ∃ j_ : Int, (mx (l1.length : Int) 1) = j_ := ⟨_, rfl⟩
   replace H : (if (wrap64 (x6_1 + (ji11))) ≤ (l0_1.length : Int) then (if 0 ≤ x6_1 then (if x6_1 ≤ (l0_1.length : Int) then ((impl_Moments_apply.f k1 a0_0 (l0_1.drop (x6_1 : Int).toNat) l1).bind fun t501 => (if x500001_1.length < 17592186044416 then (impl_Moments_product.l0 k1 l1 (wrap64 (x6_1 + 1)) a0_0 l0_1 a0_0 (x500001_1 ++ [t501])) else (none))) else (none)) else (none)) else (some (a0_0, x500001_1))) = some (r1, r2) := by first | (rw [hji11] at H; exact H) | (simp only [hji11] at H ⊢; exact H)
   have hji11_ : (if (l1.length : Int) < 1 then 1 else (l1.length : Int)) = ji11 := hji11
   by_cases c12 : (wrap64 (x6_1 + (ji11))) ≤ (l0_1.length : Int)
   rotate_left
   ·rw [if_neg c12] at H
    have c12b0 : decide ((wrap64 (x6_1 + (ji11))) ≤ (l0_1.length : Int)) = false := decide_eq_false c12
    clear c12
    simp only [Option.some.injEq, Prod.mk.injEq] at H
    obtain ⟨rfl, rfl⟩ := H
    have hnb26 := NB497_498.out; have hnc26 := NB498_497.out; have hnb27 := NB497_499.out; have hnc27 := NB499_497.out
    have hcz28_0 := bc BK497 0
    have hcz28_1 := bc BK497 1
    have hfz28_0 := bf BK497 0
    have hfz28_1 := bf BK497 1
    have hnb29 := NB499_498.out; have hnc29 := NB498_499.out
    have hcz30_0 := bc BK499 0
    have hcz30_1 := bc BK499 1
    have hfz30_0 := bf BK499 0
    have hfz30_1 := bf BK499 1
    have hcz31_0 := bc BK498 0
    have hcz31_1 := bc BK498 1
    have hfz31_0 := bf BK498 0
    have hfz31_1 := bf BK498 1
    obtain ⟨Ao32, co32, eo32⟩ := Kd.R_slice HO_500001.out
    subst eo32
    go_wp2
    refine bodyPost_ret (results_cell_row rfl _ _ gb498 26 #[.int .i64 a0_0, .slice Ao32 x500001_1.length co32] (0, 0) _ rfl (by (repeat refine up1 ?_); refine blk_put (cs := #[.int .i64 a0_0, .slice none 0 0]) ?_ 1 _ rfl; (repeat refine up1 ?_); refine blk_put (cs := #[.int .i64 0, .slice none 0 0]) ?_ 0 _ rfl; (repeat refine up1 ?_); exact BK498.out) Try.underlying26 rfl (by kernel_rfl)) rfl ?_
    exact ⟨_, by first | rfl | (simp [errW_none, errW_some] <;> rfl) | (simp only [← hji11]; first | rfl | (simp [errW_none, errW_some] <;> rfl)) | (simp [*, errW_none, errW_some] <;> rfl), uR (Kd.R_mono (Kd.R_far (p := ⟨gb498, 1, none⟩) (Kd.R_far (p := ⟨gb498, 0, none⟩) (Kd.R_types HO_500001.out BK498.out (by decide)) (fun _ hk => hk.2) (.int .i64 a0_0)) (fun _ hk => hk.2) (.slice Ao32 x500001_1.length co32)) (fun _ hk => trivial)), uH HB.out⟩

   rw [if_pos c12] at H
   have c12b0 : decide ((wrap64 (x6_1 + (ji11))) ≤ (l0_1.length : Int)) = true := decide_eq_true c12
   clear c12
   by_cases c13 : 0 ≤ x6_1
   rotate_left
   ·rw [if_neg c13] at H
    exact absurd H (by simp)
   rw [if_pos c13] at H
   have c13b0 := eq_true c13
   have c13b1 : decide (0 ≤ x6_1) = true := decide_eq_true c13
   clear c13
   by_cases c14 : x6_1 ≤ (l0_1.length : Int)
   rotate_left
   ·rw [if_neg c14] at H
    exact absurd H (by simp)
   rw [if_pos c14] at H
   have c14b0 := eq_true c14
   have c14b1 : decide (x6_1 ≤ (l0_1.length : Int)) = true := decide_eq_true c14
   clear c14
   replace H := Option.bind_eq_some_iff.mp H
   obtain ⟨t501, A150, H⟩ := H
   replace H : (if x500001_1.length < 17592186044416 then (impl_Moments_product.l0 k1 l1 (wrap64 (x6_1 + 1)) a0_0 l0_1 a0_0 (x500001_1 ++ [t501])) else (none)) = some (r1, r2) := H
   have A15 := zA A150
   clear A150
   by_cases c16 : x500001_1.length < 17592186044416
   rotate_left
   ·rw [if_neg c16] at H
    exact absurd H (by simp)
   rw [if_pos c16] at H
   have LMc16 := zA c16
   clear c16
   obtain ⟨y502, hy502⟩ : ∃ y_ : List Int, y_ = (x500001_1 ++ [t501]) := ⟨_, rfl⟩
   replace H : (impl_Moments_product.l0 k1 l1 (wrap64 (x6_1 + 1)) a0_0 l0_1 a0_0 y502) = some (r1, r2) := by first | (rw [hy502]; exact H) | exact H
   have Ny502 := zA hy502
   clear hy502
   have H' := zA H
   clear H
   have hnb17 := NB497_498.out; have hnc17 := NB498_497.out; have hnb18 := NB497_499.out; have hnc18 := NB499_497.out
   have hcz19_0 := bc BK497 0
   have hcz19_1 := bc BK497 1
   have hfz19_0 := bf BK497 0
   have hfz19_1 := bf BK497 1
   try go_wp2
   replace HO_500001 := zA (Kd.R_drew HO_500001.out)
   replace BK497 := zA (blk_drew BK497.out)
   replace BK498 := zA (blk_drew BK498.out)
   replace BK499 := zA (blk_drew BK499.out)
   replace HB := zA (below_drew1 HB.out)
   obtain ⟨i021, hi021, _, hsz21, _⟩ := info_parts info2
   obtain ⟨A21, hcut21, hA21, hC21⟩ := print_drop_of (P := Try.prog) (Value.int .i64) 0 24 2 .i64 Try.underlying24 hi021 hsz21 A0_1 c0_1 l0_1 x6_1 (of_decide_eq_true (by first | (with_reducible assumption) | assumption)) (of_decide_eq_true (by first | (with_reducible assumption) | assumption)) HC0_1.out
   have HR500 := zA (Kd.C_of_reads (h1 := fun _ => rfl) (hA21 _ (Kd.reads_of_C HR0_1.out)))
   have HC500 := zA hC21
   clear hA21 hC21 hi021 hsz21
   refine start_ (n := 15) (S := fun w' => w'.cell? ⟨gb499, 0, none⟩ = some (.int .i64 a0_0) ∧ w'.cell? ⟨gb499, 1, none⟩ = some (u500001) ∧ w'.cell? ⟨gb497, 0, none⟩ = some (.int .i64 a0_0) ∧ w'.cell? ⟨gb497, 1, none⟩ = some (.slice A0_1 l0_1.length c0_1)) (ds := [14]) #[false, false, false, false, false, false, false, false, false, false, false, false, false, false, false] (by kernel_rfl) rfl rfl ⟨bcu BK499 0, bcu BK499 1, bcu BK497 0, bcu BK497 1⟩ (fun hHeld => ?_); refine with_tabW impl_Moments_product.tab5 impl_Moments_product.bits5 (fun HT_ HW_ => ?_)
   generalize wr.drew = w20 at HO_500001 BK497 BK498 BK499 HB HR500 hHeld ⊢
   refine pu_ 0 21 (bl 15 1) HT_ ?_
   refine pu_ 2 23 (bl 15 5) HT_ ?_
   refine pu_ 4 25 (bl 15 21) HT_ ?_
   refine pu_ 6 27 (bl 15 85) HT_ ?_
   refine pu_ 9 30 (bl 15 597) HT_ ?_
   refine ta_ 1 22 (bl 15 599) HT_ HW_ hHeld ?_
   refine ta_ 3 24 (bl 15 607) HT_ HW_ hHeld ?_
   refine ta_ 5 26 (bl 15 639) HT_ HW_ hHeld ?_
   refine pu_ 7 28 (bl 15 767) HT_ ?_
   refine pu_ 8 29 (bl 15 1023) HT_ ?_
   refine on_ 10 (some 31) (bl 15 2047) HT_ (fun K hK => ?_)
   refine goes_ Try.func33 (by kernel_rfl) rfl #[.agg #[.int .i64 a0_0, .slice A21 (l0_1.drop (x6_1 : Int).toNat).length (c0_1 - x6_1.toNat)], .slice A1 l1.length c1] (by rfl) rfl rfl (by (try simp only [la, lb, lc]); first | done | (rw [show (l0_1.drop (x6_1 : Int).toNat).length = (l0_1.length - x6_1.toNat) from List.length_drop] <;> rfl) | rfl | (simp only [ld, le]; rfl)) ?_
   with_reducible refine (impl_Moments_apply.calls k1 a0_0 _ _ (l0_1.drop (x6_1 : Int).toNat) _ _ l1 t501 _ ?side1 ?side2 ?side3 ?side4 A15.out).mono ?_
   (case side1 => exact uC ((Kd.C_below HR500.out HB.out)))
   (case side2 => exact HC500.out)
   (case side3 => exact uC ((Kd.C_below HR1.out HB.out)))
   (case side4 => exact HC1.out)
   rintro e w22 ⟨rfl, hb⟩
   refine ⟨_, rfl, ?_⟩
   replace HO_500001 := xR HO_500001 hb
   replace BK497 := xB BK497 hb
   replace BK498 := xB BK498 hb
   replace BK499 := xB BK499 hb
   replace HB := xH HB hb
   (try clear hb); (try clear hb2); (try clear hk); (try clear hi)
   refine hK.out _ _ ⟨bcu BK499 0, bcu BK499 1, bcu BK497 0, bcu BK497 1⟩ (fun hHeld => ?_)
   clear hK K
   refine no_ 31 ?_
   refine on_ 11 (some 32) (bl 15 4095) HT_ (fun K hK => ?_)
   refine value_ (w1 := ?_) (v := ?_) (by rfl) rfl ?_ ?_
   rotate_left 2
   ·go_simp
    constructor
    ·rfl
    ·rfl
   refine hK.out _ _ ⟨(blk_cell (blk_alloc BK499.out _) 0).trans rfl, (blk_cell (blk_alloc BK499.out _) 1).trans rfl, (blk_cell (blk_alloc BK497.out _) 0).trans rfl, (blk_cell (blk_alloc BK497.out _) 1).trans rfl⟩ (fun hHeld => ?_)
   clear hK K
   refine no_ 32 ?_
   refine on_ 12 (some 33) (bl 15 8191) HT_ (fun K hK => ?_)
   refine Kd.R_append_step (Kd.int .i64) (w0 := w) w.heap.size (by rfl) (.tmp 22) (.tmp 32) 24 2 (.int .i64 0) 8 rfl Try.underlying24 info2 rfl (by decide) (by omega) u500001 x500001_1 t501 [.int .i64 t501] (fun _ => True) (fun _ => False) rfl rfl ?aP (fun _ hk => hk.elim) ?aF ?aO ?aB ?aS ?aL ?_
   (case aP => exact rfl)
   (case aB => exact (uH HB.out))
   (case aF => exact (fun _ _ => trivial))
   (case aO => exact (uR HO_500001.out))
   (case aS => exact (below_size (uH HB.out)))
   (case aL => have := LMc16.out; omega)
   intro v503 w23 ho hb hg hat
   rw [← Ny502.out] at ho
   replace BK497 := zA (blk_grown (g := gb497) (o := .cells #[.int .i64 a0_0, .slice A0_1 l0_1.length c0_1] 26 (0, 0)) (uB BK497.out) hg (Kd.R_ne HO_500001.out BK497.out (by decide)))
   replace BK498 := zA (blk_grown (g := gb498) (o := .cells #[.int .i64 0, .slice none 0 0] 26 (0, 0)) (uB BK498.out) hg (Kd.R_ne HO_500001.out BK498.out (by decide)))
   replace BK499 := zA (blk_grown (g := gb499) (o := .cells #[.int .i64 a0_0, u500001] 26 (0, 0)) (uB BK499.out) hg (Kd.R_ne HO_500001.out BK499.out (by decide)))
   replace HB := zA (hb)
   have HO504 := zA (ho)
   clear HO_500001
   clear ho hb hg hat
   obtain ⟨Ao24, co24, eo24⟩ := Kd.R_slice HO504.out
   (first | subst eo24 | (injection eo24 with f1_ f2_ f3_; have f4_ := f1_.symm; have f5_ := f3_.symm; clear f1_ f2_ f3_; subst f4_; subst f5_))
   refine hK.out _ _ ⟨bcu BK499 0, bcu BK499 1, bcu BK497 0, bcu BK497 1⟩ (fun hHeld => ?_)
   clear hK K
   refine no_ 33 ?_
   refine pu_ 13 34 (bl 15 16383) HT_ ?_
   refine last_ (i := 14) (N := none) (bl 15 32767) rfl rfl (one_of HT_.out (by kernel_rfl)) (by decide) (fun K hK => ?_)
   have hs25 : w23.cell? ⟨gb499, 1, none⟩ = some (u500001) := (blk_cell BK499.out 1).trans rfl
   have hfs25 := bf BK499 1
   have hns25_0 := NB497_499.out; have hns25_1 := NB498_499.out; have hms25_0 := NB499_497.out; have hms25_1 := NB499_498.out
   refine skip_ (w1 := ?_) (by rfl) rfl ?_ ?_
   rotate_left
   ·go_simp
    rfl
   refine hK.out _ _ ?_
   clear hK K
   refine done_ (done_of HT_.out (by kernel_rfl)) ?_
   try go_wp2
   go_roundg k1
   case measure => have := HK1.out; omega
   case rel => exact ⟨(wrap64 (x6_1 + 1)), (y502), (.slice Ao24 y502.length co24), (by first | rfl | (simp; done) | (simp [*]; done)), H', ⟨by have := HK1.out; omega⟩, ⟨uR (Kd.R_mono (Kd.R_far (p := ⟨gb499, 1, none⟩) (Kd.R_types HO504.out BK499.out (by decide)) (fun _ hk => hk.2) (.slice Ao24 y502.length co24)) (fun _ hk => trivial))⟩, ⟨by (repeat refine up1 ?_); refine blk_far ?_ NB497_499.out _; (repeat refine up1 ?_); exact BK497.out⟩, ⟨by (repeat refine up1 ?_); refine blk_far ?_ NB498_499.out _; (repeat refine up1 ?_); exact BK498.out⟩, ⟨by (repeat refine up1 ?_); refine blk_put (cs := #[.int .i64 a0_0, u500001]) ?_ 1 _ rfl; (repeat refine up1 ?_); exact BK499.out⟩, ⟨uH HB.out⟩⟩
/-! ### impl_trimmed: function 82 -/
def impl_trimmed.l0 : Nat → List Int → Option (List Int)
 | 0, _ => none
 | k + 1, x0 => if (x0.length : Int) > 0 then (if 0 ≤ (wrap64 ((x0.length : Int) - 1)) then (if (wrap64 ((x0.length : Int) - 1)) < (x0.length : Int) then (if (rd x0 (wrap64 ((x0.length : Int) - 1))) = 0 then (if (wrap64 ((x0.length : Int) - 1)) ≤ (x0.length : Int) then (impl_trimmed.l0 k (x0.take ((wrap64 ((x0.length : Int) - 1)) : Int).toNat)) else (none)) else (some x0)) else (none)) else (none)) else (some x0)
def impl_trimmed.f (k : Nat) (l0 : List Int) : Option (List Int) := impl_trimmed.l0 k l0
set_option maxHeartbeats 8000000 in
set_option maxRecDepth 100000 in
theorem impl_trimmed.calls (k : Nat) (P0_ : Nat → Prop) (u9000_ : Value) (l0 : List Int) (r : List Int) (w0 w : World) (hB : Below w0.heap.size w0 w) (ho0 : Kd.R (Kd.int .i64) 2 w w0.heap.size P0_ u9000_ l0) (h : impl_trimmed.f k l0 = some r) :
  Calls Try.prog 82 #[u9000_] w fun e w' => ∃ v0_ : Value, e = .returned (v0_) ∧ Kd.R (Kd.int .i64) 2 w' w0.heap.size (fun k_ => (P0_ k_ ∨ w.heap.size ≤ k_)) v0_ r ∧ Below w0.heap.size w0 w' ∧ Kept w w' (fun k_ => P0_ k_) := by
 have HO0 := zA (show Kd.R (Kd.int .i64) 2 w w0.heap.size (fun k_ => (P0_ k_ ∨ w.heap.size ≤ k_)) u9000_ l0 from Kd.R_mono ho0 (fun k_ hk => (.inl hk)))
 have HK := zA (Kept.refl w (fun k_ => P0_ k_))
 have HW0 := zA hB.size
 have HB := zA hB
 clear hB
 have H : (impl_trimmed.l0 k l0) = some r := h
 clear h
 have H' := zA H
 clear H
 go_enter Try.func82, Try.ntmps82
 go_wp2
 go_loopg [0] k (fun kq v0 w' => ∃ (x0_1 : List Int), Aside0 (impl_trimmed.l0 kq x0_1 = some r) ∧ Aside0 (kq ≤ k) ∧ Aside0 (Kd.R (Kd.int .i64) 2 w' w0.heap.size (fun k_ => (P0_ k_ ∨ w.heap.size ≤ k_)) v0 x0_1) ∧ Aside0 (Kept w w' (fun k_ => P0_ k_)) ∧ Aside0 (Below w0.heap.size w0 w'))
 case atStart => exact ⟨(l0), H', ⟨Nat.le_refl _⟩, ⟨uR HO0.out⟩, ⟨by repeat (first | (with_reducible first | exact HK.out | apply Kept.alloc | apply Kept.drewN | apply Kept.drew) | exact HK.out)⟩, ⟨uH HB.out⟩⟩
 case round =>
  clear H'
  obtain ⟨x0_1, HA, HK1, HO_0, HK, HB⟩ := hrel
  cases gk with
  | zero => exact absurd HA.out (by simp [impl_trimmed.l0])
  | succ k1 =>
   have H := HA.out
   clear HA
   simp only [impl_trimmed.l0] at H
   by_cases c2 : (x0_1.length : Int) > 0
   rotate_left
   ·rw [if_neg c2] at H
    have c2b0 : decide (0 < (x0_1.length : Int)) = false := decide_eq_false c2
    have c2b1 : decide (0 < x0_1.length) = false := decide_eq_false (by omega)
    clear c2
    obtain rfl := Option.some.inj H
    obtain ⟨Ao11, co11, eo11⟩ := Kd.R_slice HO_0.out
    subst eo11
    go_wp2
    go_ret
    exact ⟨_, by first | rfl | (simp [errW_none, errW_some] <;> rfl) | (simp [*, errW_none, errW_some] <;> rfl), uR HO_0.out, uH HB.out, by repeat (first | (with_reducible first | exact HK.out | apply Kept.alloc | apply Kept.drewN | apply Kept.drew) | exact HK.out)⟩

   rw [if_pos c2] at H
   have c2b0 : decide (0 < (x0_1.length : Int)) = true := decide_eq_true c2
   have c2b1 : decide (0 < x0_1.length) = true := decide_eq_true (by omega)
   clear c2
   obtain ⟨ji3, hji3⟩ : ∃ j_ : Int, (wrap64 ((x0_1.length : Int) - 1)) = j_ := ⟨_, rfl⟩
   replace H : (if 0 ≤ (ji3) then (if (ji3) < (x0_1.length : Int) then (if (rd x0_1 (ji3)) = 0 then (if (ji3) ≤ (x0_1.length : Int) then (impl_trimmed.l0 k1 (x0_1.take ((ji3) : Int).toNat)) else (none)) else (some x0_1)) else (none)) else (none)) = some r := by first | (rw [hji3] at H; exact H) | (simp only [hji3] at H ⊢; exact H)
   have hji3w : (IntKind.i64.wrap ((x0_1.length : Int) - 1)) = ji3 := (i64_w _).trans hji3
   by_cases c4 : 0 ≤ (ji3)
   rotate_left
   ·rw [if_neg c4] at H
    exact absurd H (by simp)
   rw [if_pos c4] at H
   have c4b0 : decide (0 ≤ (ji3)) = true := decide_eq_true c4
   clear c4
   by_cases c5 : (ji3) < (x0_1.length : Int)
   rotate_left
   ·rw [if_neg c5] at H
    exact absurd H (by simp)
   rw [if_pos c5] at H
   have c5b0 : decide ((ji3) < (x0_1.length : Int)) = true := decide_eq_true c5
   clear c5
   by_cases c6 : (rd x0_1 (ji3)) = 0
   rotate_left
   ·rw [if_neg c6] at H
    have c6b0 : ((rd x0_1 (ji3)) == 0) = false := beq_eq_false_iff_ne.mpr c6
    have c6b1 : ((rd x0_1 (ji3)) != 0) = true := bne_iff_ne.mpr c6
    obtain rfl := Option.some.inj H
    obtain ⟨Ao10, co10, eo10⟩ := Kd.R_slice HO_0.out
    subst eo10
    have p606 : 0 ≤ ((ji3) : Int) := of_decide_eq_true (by first | (with_reducible assumption) | assumption)
    have q606 : (ji3) < (x0_1.length : Int) := of_decide_eq_true (by first | (with_reducible assumption) | assumption)
    obtain ⟨ad606, e606, hx606_0⟩ := Kd.at_int (Kd.R_reads' HO_0.out).2.2 (ji3) p606 q606
    cases e606
    replace p606 := eq_true p606
    replace q606 := eq_true q606
    go_wp2
    go_ret
    exact ⟨_, by first | rfl | (simp [errW_none, errW_some] <;> rfl) | (simp only [← hji3]; first | rfl | (simp [errW_none, errW_some] <;> rfl)) | (simp [*, errW_none, errW_some] <;> rfl), uR HO_0.out, uH HB.out, by repeat (first | (with_reducible first | exact HK.out | apply Kept.alloc | apply Kept.drewN | apply Kept.drew) | exact HK.out)⟩
   rw [if_pos c6] at H
   have c6b0 : ((rd x0_1 (ji3)) == 0) = true := beq_iff_eq.mpr c6
   have c6b1 : ((rd x0_1 (ji3)) != 0) = false := bne_eq_false_iff_eq.mpr c6
   clear c6
   by_cases c7 : (ji3) ≤ (x0_1.length : Int)
   rotate_left
   ·rw [if_neg c7] at H
    exact absurd H (by simp)
   rw [if_pos c7] at H
   have c7b0 := eq_true c7
   have c7b1 : decide ((ji3) ≤ (x0_1.length : Int)) = true := decide_eq_true c7
   clear c7
   obtain ⟨y607, hy607⟩ : ∃ y_ : List Int, y_ = (x0_1.take ((ji3) : Int).toNat) := ⟨_, rfl⟩
   replace H : (impl_trimmed.l0 k1 y607) = some r := by first | (rw [hy607]; exact H) | exact H
   have Ny607 := zA hy607
   clear hy607
   have H' := zA H
   clear H
   obtain ⟨Ao8, co8, eo8⟩ := Kd.R_slice HO_0.out
   subst eo8
   have p606 : 0 ≤ ((ji3) : Int) := of_decide_eq_true (by first | (with_reducible assumption) | assumption)
   have q606 : (ji3) < (x0_1.length : Int) := of_decide_eq_true (by first | (with_reducible assumption) | assumption)
   obtain ⟨ad606, e606, hx606_0⟩ := Kd.at_int (Kd.R_reads' HO_0.out).2.2 (ji3) p606 q606
   cases e606
   replace p606 := eq_true p606
   replace q606 := eq_true q606
   have q9 : ((ji3) : Int) ≤ ((x0_1.length : Int) : Int) := of_decide_eq_true (by first | (with_reducible assumption) | assumption)
   obtain ⟨i09, hi09, _, hsz9, _⟩ := info_parts info2
   have hcut9 := cut_to (P := Try.prog) 24 2 .i64 Try.underlying24 hi09 (some ad606) x0_1.length co8 (ji3) (of_decide_eq_true (by first | (with_reducible assumption) | assumption)) q9 (Kd.R_reads' HO_0.out).2.1
   have hr9 := Kd.R_take (m := ((ji3) : Int).toNat) HO_0.out (by omega)
   have hy9 : y607.length = ((ji3) : Int).toNat := (by rw [Ny607.out, List.length_take]; omega)
   rw [← Ny607.out] at hr9
   rw [← hy9] at hr9 hcut9
   clear hy9 hi09 hsz9 HO_0
   have HO609 := zA hr9
   clear hr9
   replace q9 := eq_true q9
   go_wp2
   go_roundg k1
   case measure => have := HK1.out; omega
   case rel => exact ⟨(y607), H', ⟨by have := HK1.out; omega⟩, ⟨uR HO609.out⟩, ⟨by repeat (first | (with_reducible first | exact HK.out | apply Kept.alloc | apply Kept.drewN | apply Kept.drew) | exact HK.out)⟩, ⟨uH HB.out⟩⟩
/-! ### impl_field_add: function 56 -/
def impl_field_add.l0 : Nat → Int → Int → List Int → List Int → Int → Int → Option (List Int)
 | 0, _, _, _, _, _, _ => none
 | k + 1, x0, x3, x9, x21, x22, x23 => if x23 < x22 then (if 0 ≤ x23 then (if x23 < (x21.length : Int) then (if x23 < (x9.length : Int) then ((impl_field_mod.f x0 (wrap64 ((rd x9 x23) + (wrap64 (x3 * (rd x21 x23)))))).bind fun t618 => (impl_field_add.l0 k x0 x3 (x9.set (x23 : Int).toNat t618) x21 x22 (wrap64 (x23 + 1)))) else (none)) else (none)) else (none)) else ((impl_trimmed.f k x9).bind fun t620 => (some t620))
def impl_field_add.f (k : Nat) (a0 : Int) (l1 : List Int) (l2 : List Int) (a3 : Int) : Option (List Int) := if 0 ≤ (mx (l1.length : Int) (l2.length : Int)) then (if (mx (l1.length : Int) (l2.length : Int) : Int).toNat ≤ 35184372088832 then (impl_field_add.l0 k a0 a3 (cpy (List.replicate (mx (l1.length : Int) (l2.length : Int) : Int).toNat 0) l1) l2 (l2.length : Int) 0) else (none)) else (none)
set_option maxHeartbeats 8000000 in
set_option maxRecDepth 100000 in
theorem impl_field_add.calls (k : Nat) (a0 : Int) (A1 : Option Addr) (c1 : Nat) (l1 : List Int) (A2 : Option Addr) (c2 : Nat) (l2 : List Int) (a3 : Int) (r : List Int) (w : World) (hr1 : Kd.C (Kd.int .i64) w A1 l1.length l1) (hc1 : l1.length ≤ c1) (hr2 : Kd.C (Kd.int .i64) w A2 l2.length l2) (hc2 : l2.length ≤ c2) (h : impl_field_add.f k a0 l1 l2 a3 = some r) :
  Calls Try.prog 56 #[.int .i64 a0, .slice A1 l1.length c1, .slice A2 l2.length c2, .int .i64 a3] w fun e w' => ∃ v0_ : Value, e = .returned (v0_) ∧ Kd.R (Kd.int .i64) 2 w' w.heap.size (fun _ => True) v0_ r ∧ Below w.heap.size w w' := by
 have HR1 := zA hr1
 have HC1 := zA hc1
 clear hr1 hc1
 have HR2 := zA hr2
 have HC2 := zA hc2
 clear hr2 hc2
 have HB := zA (Below.refl w.heap.size w)
 have H : (if 0 ≤ (mx (l1.length : Int) (l2.length : Int)) then (if (mx (l1.length : Int) (l2.length : Int) : Int).toNat ≤ 35184372088832 then (impl_field_add.l0 k a0 a3 (cpy (List.replicate (mx (l1.length : Int) (l2.length : Int) : Int).toNat 0) l1) l2 (l2.length : Int) 0) else (none)) else (none)) = some r := h
 clear h
 obtain ⟨ji5, hji5⟩ : ∃ j_ : Int, (mx (l1.length : Int) (l2.length : Int)) = j_ := ⟨_, rfl⟩
 replace H : (if 0 ≤ (ji5) then (if (ji5 : Int).toNat ≤ 35184372088832 then (impl_field_add.l0 k a0 a3 (cpy (List.replicate (ji5 : Int).toNat 0) l1) l2 (l2.length : Int) 0) else (none)) else (none)) = some r := by first | (rw [hji5] at H; exact H) | (simp only [hji5] at H ⊢; exact H)
 (try (have hji5l : 0 ≤ ji5 := by (rw [← hji5]; unfold mx; (repeat' split) <;> omega)))
 (try (have hji5m : 0 ≤ ji5 := by omega))
 have hji5_ : (if (l1.length : Int) < (l2.length : Int) then (l2.length : Int) else (l1.length : Int)) = ji5 := hji5
 (try (have hji5n : (if l1.length < l2.length then (l2.length : Int) else (l1.length : Int)) = ji5 := by have h_ := hji5_; simpa only [Int.ofNat_lt] using h_))
 by_cases c6 : 0 ≤ (ji5)
 rotate_left
 ·rw [if_neg c6] at H
  exact absurd H (by simp)

 rw [if_pos c6] at H
 have c6b0 := eq_true c6
 have c6b1 : decide (0 ≤ (ji5)) = true := decide_eq_true c6
 clear c6
 by_cases c7 : (ji5 : Int).toNat ≤ 35184372088832
 rotate_left
 ·rw [if_neg c7] at H
  exact absurd H (by simp)
 rw [if_pos c7] at H
 have c7b0 := eq_true c7
 have c7b1 : decide ((ji5 : Int).toNat ≤ 35184372088832) = true := decide_eq_true c7
 clear c7
 obtain ⟨y610, hy610⟩ : ∃ y_ : List Int, y_ = (List.replicate (ji5 : Int).toNat 0) := ⟨_, rfl⟩
 replace H : (impl_field_add.l0 k a0 a3 (cpy y610 l1) l2 (l2.length : Int) 0) = some r := by first | (rw [hy610]; exact H) | exact H
 have Ny610 := zA hy610
 clear hy610
 obtain ⟨y613, hy613⟩ : ∃ y_ : List Int, y_ = (cpy y610 l1) := ⟨_, rfl⟩
 replace H : (impl_field_add.l0 k a0 a3 y613 l2 (l2.length : Int) 0) = some r := by first | (rw [hy613]; exact H) | exact H
 have Ny613 := zA hy613
 clear hy613
 have H' := zA H
 clear H
 go_enter Try.func56, Try.ntmps56
 go_wp2_with (first | ((with_reducible refine gate_dst (N := 17) rfl ?_); refine Kd.R_make (Kd.int .i64) _ 2 rfl (N := 17) rfl 24 _ _ rfl ji5 rfl rfl Try.underlying24 (.int .i64 0) 8 info2 rfl (by decide) (by omega) 0 (ok := fun _ => True) (okp := fun _ => True) rfl (fun _ hk => hk) trivial (of_decide_eq_true (by first | (with_reducible assumption) | assumption)) (Nat.le_trans (Nat.mul_le_mul_right _ (of_decide_eq_true (by first | (with_reducible assumption) | assumption) : ji5.toNat ≤ 35184372088832)) (by omega)) (Below.refl _ _) (Nat.le_refl _) ?_; intro v611 w8 ho9 hb hg_ hnew_; clear hg_ hnew_; (first | rw [← Ny610.out] at ho9 | (simp only [Int.reduceToNat] at ho9; rw [← Ny610.out] at ho9)); have HO612 := zA (Kd.R_lower ho9 (below_size (uH HB.out))); replace HB := xH HB hb; clear hb ho9) | ((with_reducible refine gate_builtin (b := .copy) (xs := #[.tmp 18, .tmp 19]) rfl ?_); skip; refine R_copy_int (k := .i64) (w0 := w) w.heap.size ?g1 (.tmp 18) (.tmp 19) 24 24 2 ?g2 ?g3 (.int .i64 0) 8 ?g4 v611 y610 l1 ?g5 ?g6 ?g7 (fun _ => True) ?g8 ?g9 ?aO ?aR ?aB ?aS ?_; (case g1 => rfl); (case g2 => rfl); (case g3 => exact Try.underlying24); (case g4 => exact info2); (case g8 => rfl); (case g9 => rfl); (case aR => exact uC ((Kd.C_below HR1.out HB.out))); (case aB => exact (uH HB.out)); (case aO => exact (uR HO612.out)); (case aS => exact (below_size (uH HB.out))); skip; intro w10 ho hb hg hat; rw [← Ny613.out] at ho; replace HB := zA (hb); have HO615 := zA (ho); clear HO612 ho hb hg hat))
 go_loopg [23] k (fun kq v23 w' => ∃ (x9_1 : List Int) (x23_1 : Int), v23 = .int .i64 x23_1 ∧ Aside0 (impl_field_add.l0 kq a0 a3 x9_1 l2 (l2.length : Int) x23_1 = some r) ∧ Aside0 (kq ≤ k) ∧ Aside0 (Kd.R (Kd.int .i64) 2 w' w.heap.size (fun _ => True) v611 x9_1) ∧ Aside0 (Below w.heap.size w w'))
 case atStart => exact ⟨(y613), (0), (by first | rfl | (simp; done) | (simp [*]; done)), H', ⟨Nat.le_refl _⟩, ⟨uR HO615.out⟩, ⟨uH HB.out⟩⟩
 case round =>
  clear H'
  (try clear c1);(try clear c2);(try clear p2);(try clear c5);(try clear c6);(try clear c6b0);(try clear c6b1);(try clear c7);(try clear c7b0);(try clear c7b1)
  obtain ⟨x9_1, x23_1, rfl, HA, HK1, HO_9, HB⟩ := hrel
  cases gk with
  | zero => exact absurd HA.out (by simp [impl_field_add.l0])
  | succ k1 =>
   have H := HA.out
   clear HA
   simp only [impl_field_add.l0] at H
   by_cases c11 : x23_1 < (l2.length : Int)
   rotate_left
   ·rw [if_neg c11] at H
    have c11b0 : decide (x23_1 < (l2.length : Int)) = false := decide_eq_false c11
    clear c11
    replace H := Option.bind_eq_some_iff.mp H
    obtain ⟨t620, A200, H⟩ := H
    replace H : (some t620) = some r := H
    have A20 := zA A200
    clear A200
    obtain rfl := Option.some.inj H
    obtain ⟨Ao21, co21, eo21⟩ := Kd.R_slice HO_9.out
    subst eo21
    go_wp2_with (first | ((with_reducible refine gate_callee (f := 82) rfl ?_); refine gL (some 43) Try.func82 #[.slice Ao21 x9_1.length co21] ?_; (with_reducible refine (impl_trimmed.calls k1 (fun k_ => some k_ = (.slice Ao21 x9_1.length co21 : Value).ownBlock) (.slice Ao21 x9_1.length co21) x9_1 t620 w _ ?side1 ?side2 A20.out).mono ?_); (case side1 => repeat (first | (with_reducible first | exact HB.out | apply below_alloc | apply pw_below_drewN | apply below_drew1) | exact HB.out)); (case side2 => exact Kd.R_tight rfl HO_9.out); rintro e w22 ⟨v621, rfl, ho0, hb, hkp⟩; refine ⟨_, rfl, ?_⟩; have HO622 := zA (Kd.R_mono (ok' := fun k_ => True) ho0 (fun k_ hk_ => trivial)); replace HB := zA (hb); clear HO_9; (try clear hb); (try clear hkp); (try clear ho0)))
    go_ret
    exact ⟨_, by first | rfl | (simp [errW_none, errW_some] <;> rfl) | (simp only [← hji5]; first | rfl | (simp [errW_none, errW_some] <;> rfl)) | (simp [*, errW_none, errW_some] <;> rfl), uR HO622.out, uH HB.out⟩
   rw [if_pos c11] at H
   have c11b0 : decide (x23_1 < (l2.length : Int)) = true := decide_eq_true c11
   clear c11
   by_cases c12 : 0 ≤ x23_1
   rotate_left
   ·rw [if_neg c12] at H
    exact absurd H (by simp)
   rw [if_pos c12] at H
   have c12b0 : decide (0 ≤ x23_1) = true := decide_eq_true c12
   clear c12
   by_cases c13 : x23_1 < (l2.length : Int)
   rotate_left
   ·rw [if_neg c13] at H
    exact absurd H (by simp)
   rw [if_pos c13] at H
   have c13b0 : decide (x23_1 < (l2.length : Int)) = true := decide_eq_true c13
   clear c13
   by_cases c14 : x23_1 < (x9_1.length : Int)
   rotate_left
   ·rw [if_neg c14] at H
    exact absurd H (by simp)
   rw [if_pos c14] at H
   have c14b0 : decide (x23_1 < (x9_1.length : Int)) = true := decide_eq_true c14
   clear c14
   replace H := Option.bind_eq_some_iff.mp H
   obtain ⟨t618, A150, H⟩ := H
   replace H : (impl_field_add.l0 k1 a0 a3 (x9_1.set (x23_1 : Int).toNat t618) l2 (l2.length : Int) (wrap64 (x23_1 + 1))) = some r := H
   have A15 := zA A150
   clear A150
   obtain ⟨y619, hy619⟩ : ∃ y_ : List Int, y_ = (x9_1.set (x23_1 : Int).toNat t618) := ⟨_, rfl⟩
   replace H : (impl_field_add.l0 k1 a0 a3 y619 l2 (l2.length : Int) (wrap64 (x23_1 + 1))) = some r := by first | (rw [hy619]; exact H) | exact H
   have Ny619 := zA hy619
   clear hy619
   have H' := zA H
   clear H
   have p616 : 0 ≤ (x23_1 : Int) := of_decide_eq_true (by first | (with_reducible assumption) | assumption)
   have q616 : x23_1 < (l2.length : Int) := of_decide_eq_true (by first | (with_reducible assumption) | assumption)
   obtain ⟨ad616, e616, hx616_0⟩ := Kd.at_int HR2.out x23_1 p616 q616
   cases e616
   replace hx616_0 := hc HB hx616_0
   replace p616 := eq_true p616
   replace q616 := eq_true q616
   obtain ⟨Ao17, co17, eo17⟩ := Kd.R_slice HO_9.out
   subst eo17
   have p617 : 0 ≤ (x23_1 : Int) := of_decide_eq_true (by first | (with_reducible assumption) | assumption)
   have q617 : x23_1 < (x9_1.length : Int) := of_decide_eq_true (by first | (with_reducible assumption) | assumption)
   obtain ⟨ad617, e617, hx617_0⟩ := Kd.at_int (Kd.R_reads' HO_9.out).2.2 x23_1 p617 q617
   cases e617
   replace p617 := eq_true p617
   replace q617 := eq_true q617
   go_wp2_with (first | ((with_reducible refine gate_callee (f := 72) rfl ?_); refine gL (some 39) Try.func72 #[.int .i64 a0, .int .i64 (wrap64 ((rd x9_1 x23_1) + (wrap64 (a3 * (rd l2 x23_1)))))] ?_; (with_reducible refine (impl_field_mod.calls a0 (wrap64 ((rd x9_1 x23_1) + (wrap64 (a3 * (rd l2 x23_1))))) t618 _ A15.out).mono ?_); rintro e w' ⟨rfl, ⟨nd, rfl⟩⟩; refine ⟨_, rfl, ?_⟩; (try (rw [drewN_self wr]; generalize hq_ : World.drewN wr _ = wr; have n0_ : Aside0 (Kd.R (Kd.int .i64) 2 wr w.heap.size (fun _ => True) (.slice (some ad617) x9_1.length co17) x9_1) := ⟨by rw [← hq_]; exact (uR HO_9.out)⟩; have n1_ : Aside0 (Below w.heap.size w wr) := ⟨by rw [← hq_]; exact (uH HB.out)⟩; clear HO_9 HB hq_; have HO_9 := n0_; have HB := n1_; clear n0_ n1_)); have p16 : 0 ≤ (x23_1 : Int) := of_decide_eq_true (by first | (with_reducible assumption) | assumption); have q16 : (x23_1 : Int) < ((x9_1.length : Int) : Int) := of_decide_eq_true (by first | (with_reducible assumption) | assumption); obtain ⟨go16, co16, eo16, gb16, gl16, cl16, HG16⟩ := Kd.R_form HO_9.out (by omega); (first | cases eo16 | (injection eo16 with ea_ en_ ec_; (first | subst ea_ | (injection ea_ with ea_; subst ea_)); subst ec_; clear en_)); have GB16 := zA gb16; have := geI GB16; have GG16 := zA HG16; clear gb16 gl16 HG16; (first | simp only [add_plain] at hx617_0 | skip); obtain ⟨hx16_0, hf16_0⟩ := Kd.R_celln 0 HO_9.out (x23_1 : Int) p16 q16; replace p16 := eq_true p16; replace q16 := eq_true q16; obtain ⟨hy18_, hz18_⟩ := Kd.R_celln 0 HO_9.out (x23_1 : Int) (of_decide_eq_true (by first | (with_reducible assumption) | assumption)) (of_decide_eq_true (by first | (with_reducible assumption) | assumption)); have HP18 := Kd.R_putg HO_9.out (x23_1 : Int) t618) | ((with_reducible refine gate_store (t := 2) (p := 40) rfl ?_); refine store_event (t := 2) (p := 40) (v := ?vo_w19) (w1 := (wr.setCell ⟨go16, (x23_1 : Int).toNat, none⟩ (.int .i64 t618))) ?hg ?ho ?hn ?hr ?_; (case ho => rfl); (case hg => rfl); (case hn => rfl); (case hr => first | (go_simp; done) | (go_simp; rfl)); intro w19 hw; have hg : wr.grownBy w19 (some go16) := (by rw [hw]; exact HP18.2); have hp_ : Kd.R (Kd.int .i64) 2 w19 w.heap.size (fun _ => True) (.slice (some ⟨go16, 0, none⟩) x9_1.length co17) y619 := (by rw [hw, Ny619.out]; exact HP18.1); clear HP18; replace HO_9 := zA (hp_); replace HB := zA ((by rw [hw]; exact below_set (HB.out) GB16.out : Below w.heap.size w w19)); clear hg hw hp_))
   go_roundg k1
   case measure => have := HK1.out; omega
   case rel => exact ⟨(y619), (wrap64 (x23_1 + 1)), (by first | rfl | (simp; done) | (simp [*]; done)), H', ⟨by have := HK1.out; omega⟩, ⟨uR HO_9.out⟩, ⟨uH HB.out⟩⟩
/-! ### impl_within: function 37 -/
def impl_within.f (a0 : Int) (a1 : Int) (a2 : Int) : Option (Bool) := if a1 ≤ a0 then (some (decide (a0 ≤ a2))) else (some false)
set_option maxHeartbeats 8000000 in
set_option maxRecDepth 100000 in
theorem impl_within.calls (a0 : Int) (a1 : Int) (a2 : Int) (r : Bool) (w : World) (h : impl_within.f a0 a1 a2 = some r) :
  Calls Try.prog 37 #[.int .i64 a0, .int .i64 a1, .int .i64 a2] w fun e w' => e = .returned (.bool r) ∧ Drawn0 w w' := by
 have H : (if a1 ≤ a0 then (some (decide (a0 ≤ a2))) else (some false)) = some r := h
 clear h
 by_cases c4 : a1 ≤ a0
 rotate_left
 ·rw [if_neg c4] at H
  have c4b0 : decide (a1 ≤ a0) = false := decide_eq_false c4
  clear c4
  obtain rfl := Option.some.inj H
  go_enter Try.func37, Try.ntmps37
  go_wp2
  go_ret
  exact ⟨by first | rfl | (simp; done) | (simp [*]; done), by repeat (first | exact Drawn0.refl _ | apply Drawn0.step)⟩

 rw [if_pos c4] at H
 have c4b0 : decide (a1 ≤ a0) = true := decide_eq_true c4
 clear c4
 obtain rfl := Option.some.inj H
 go_enter Try.func37, Try.ntmps37
 go_wp2
 go_ret
 exact ⟨by first | rfl | (simp; done) | (simp [*]; done), by repeat (first | exact Drawn0.refl _ | apply Drawn0.step)⟩
/-! ### impl_CutMoments_1: function 52 -/
def impl_CutMoments_1.f (a0_0 : Int) (a1_0 : Int) (l1_1 : List Int) : Option (Bool) := (impl_length_int64.f l1_1).bind fun t585 => ((impl_within.f a0_0 1 t585).bind fun t586 => (some t586))
set_option maxHeartbeats 8000000 in
set_option maxRecDepth 100000 in
theorem impl_CutMoments_1.calls (gc0 : Nat) (a0_0 : Int) (gc1 : Nat) (a1_0 : Int) (A1_1 : Option Addr) (c1_1 : Nat) (l1_1 : List Int) (r : Bool) (w : World) (hb0 : w.heap[gc0]? = some (.cells #[.int .i64 a0_0] 2 (0, 0))) (hb1 : w.heap[gc1]? = some (.cells #[.int .i64 a1_0, .slice A1_1 l1_1.length c1_1] 26 (0, 0))) (hr1_1 : Kd.C (Kd.int .i64) w A1_1 l1_1.length l1_1) (hc1_1 : l1_1.length ≤ c1_1) (h : impl_CutMoments_1.f a0_0 a1_0 l1_1 = some r) :
  Calls Try.prog 52 #[.pointer (some ⟨gc0, 0, none⟩), .pointer (some ⟨gc1, 0, none⟩)] w fun e w' => e = .returned (.bool r) ∧ Drawn0 w w' := by
 have HR1_1 := zA hr1_1
 have HC1_1 := zA hc1_1
 clear hr1_1 hc1_1
 have BK0 := zA hb0
 clear hb0
 have BK1 := zA hb1
 clear hb1
 have H : ((impl_length_int64.f l1_1).bind fun t585 => ((impl_within.f a0_0 1 t585).bind fun t586 => (some t586))) = some r := h
 clear h
 replace H := Option.bind_eq_some_iff.mp H
 obtain ⟨t585, A30, H⟩ := H
 replace H : ((impl_within.f a0_0 1 t585).bind fun t586 => (some t586)) = some r := H
 have A3 := zA A30
 clear A30
 replace H := Option.bind_eq_some_iff.mp H
 obtain ⟨t586, A40, H⟩ := H
 replace H : (some t586) = some r := H
 have A4 := zA A40
 clear A40
 obtain rfl := Option.some.inj H
 have hcz5_0 := bc BK0 0
 have hfz5_0 := bf BK0 0
 have hcz6_0 := bc BK1 0
 have hcz6_1 := bc BK1 1
 have hfz6_0 := bf BK1 0
 have hfz6_1 := bf BK1 1
 go_enter Try.func52, Try.ntmps52
 go_wp2_with (first | (go_at_call 38; (with_reducible refine (impl_length_int64.calls _ _ l1_1 t585 _ ?side1 ?side2 A3.out).mono ?_); (case side1 => exact uC HR1_1.out); (case side2 => exact HC1_1.out); rintro e w' ⟨rfl, ⟨nd, rfl⟩⟩; (try first | exact ⟨rfl, _, World.drewN_drewN _ _ _⟩ | exact ⟨rfl, _, Eq.trans (World.drewN_drewN _ _ _) (congrArg (World.drewN _) (Nat.add_assoc _ _ _))⟩)) | (go_at_call 37; (with_reducible refine (impl_within.calls a0_0 1 t585 t586 _ A4.out).mono ?_); rintro e w' ⟨rfl, ⟨nd, rfl⟩⟩; (try first | exact ⟨rfl, _, World.drewN_drewN _ _ _⟩ | exact ⟨rfl, _, Eq.trans (World.drewN_drewN _ _ _) (congrArg (World.drewN _) (Nat.add_assoc _ _ _))⟩)))
 repeat (go_quiet (first | (go_at_call 38; (with_reducible refine (impl_length_int64.calls _ _ l1_1 t585 _ ?side1 ?side2 A3.out).mono ?_); (case side1 => exact uC HR1_1.out); (case side2 => exact HC1_1.out); rintro e w' ⟨rfl, ⟨nd, rfl⟩⟩; (try first | exact ⟨rfl, _, World.drewN_drewN _ _ _⟩ | exact ⟨rfl, _, Eq.trans (World.drewN_drewN _ _ _) (congrArg (World.drewN _) (Nat.add_assoc _ _ _))⟩)) | (go_at_call 37; (with_reducible refine (impl_within.calls a0_0 1 t585 t586 _ A4.out).mono ?_); rintro e w' ⟨rfl, ⟨nd, rfl⟩⟩; (try first | exact ⟨rfl, _, World.drewN_drewN _ _ _⟩ | exact ⟨rfl, _, Eq.trans (World.drewN_drewN _ _ _) (congrArg (World.drewN _) (Nat.add_assoc _ _ _))⟩))); try go_wp2_with (first | (go_at_call 38; (with_reducible refine (impl_length_int64.calls _ _ l1_1 t585 _ ?side1 ?side2 A3.out).mono ?_); (case side1 => exact uC HR1_1.out); (case side2 => exact HC1_1.out); rintro e w' ⟨rfl, ⟨nd, rfl⟩⟩; (try first | exact ⟨rfl, _, World.drewN_drewN _ _ _⟩ | exact ⟨rfl, _, Eq.trans (World.drewN_drewN _ _ _) (congrArg (World.drewN _) (Nat.add_assoc _ _ _))⟩)) | (go_at_call 37; (with_reducible refine (impl_within.calls a0_0 1 t585 t586 _ A4.out).mono ?_); rintro e w' ⟨rfl, ⟨nd, rfl⟩⟩; (try first | exact ⟨rfl, _, World.drewN_drewN _ _ _⟩ | exact ⟨rfl, _, Eq.trans (World.drewN_drewN _ _ _) (congrArg (World.drewN _) (Nat.add_assoc _ _ _))⟩))))
 go_ret
 exact ⟨by first | rfl | (simp; done) | (simp [*]; done), by repeat (first | exact Drawn0.refl _ | apply Drawn0.step)⟩
/-! ### impl_IsPrime: function 36 -/
def impl_IsPrime.l0 : Nat → Int → Int → Option (Bool)
 | 0, _, _ => none
 | k + 1, x0, x3 => if (wrap64 (x3 * x3)) ≤ x0 then (if x3 = 0 then (none) else (if (Int.tmod x0 x3) = 0 then (some false) else (impl_IsPrime.l0 k x0 (wrap64 (x3 + 1))))) else (some true)
def impl_IsPrime.f (k : Nat) (a0 : Int) : Option (Bool) := (impl_within.f a0 2 10007).bind fun t425 => (if t425 = true then (impl_IsPrime.l0 k a0 2) else (some false))
set_option maxHeartbeats 8000000 in
set_option maxRecDepth 100000 in
theorem impl_IsPrime.calls (k : Nat) (a0 : Int) (r : Bool) (w : World) (h : impl_IsPrime.f k a0 = some r) :
  Calls Try.prog 36 #[.int .i64 a0] w fun e w' => e = .returned (.bool r) ∧ Drawn0 w w' := by
 have H : ((impl_within.f a0 2 10007).bind fun t425 => (if t425 = true then (impl_IsPrime.l0 k a0 2) else (some false))) = some r := h
 clear h
 replace H := Option.bind_eq_some_iff.mp H
 obtain ⟨t425, A20, H⟩ := H
 replace H : (if t425 = true then (impl_IsPrime.l0 k a0 2) else (some false)) = some r := H
 have A2 := zA A20
 clear A20
 by_cases c3 : t425 = true
 ·subst c3
  have H1 : (impl_IsPrime.l0 k a0 2) = some r := by rw [if_pos rfl] at H; exact H
  clear H
  have H := H1
  clear H1
  have H' := zA H
  clear H
  go_enter Try.func36, Try.ntmps36
  go_wp2_with (first | ((with_reducible refine gate_callee (f := 37) rfl ?_); refine gL (some 5) Try.func37 #[.int .i64 a0, .int .i64 2, .int .i64 10007] ?_; (with_reducible refine (impl_within.calls a0 2 10007 true _ A2.out).mono ?_); rintro e w' ⟨rfl, ⟨nd, rfl⟩⟩; refine ⟨_, rfl, ?_⟩))
  go_loopg [3] k (fun kq v3 w' => ∃ (x3_1 : Int), v3 = .int .i64 x3_1 ∧ Aside0 (impl_IsPrime.l0 kq a0 x3_1 = some r) ∧ Aside0 (kq ≤ k) ∧ Drawn0 w w')
  case atStart => exact ⟨(2), (by first | rfl | (simp; done) | (simp [*]; done)), H', ⟨Nat.le_refl _⟩, by repeat (first | exact Drawn0.refl _ | apply Drawn0.step)⟩
  case round =>
   clear H'
   (try clear p2);(try clear c3)
   obtain ⟨x3_1, rfl, HA, HK1, ⟨m1, rfl⟩⟩ := hrel
   cases gk with
   | zero => exact absurd HA.out (by simp [impl_IsPrime.l0])
   | succ k1 =>
    have H := HA.out
    clear HA
    simp only [impl_IsPrime.l0] at H
    by_cases c4 : (wrap64 (x3_1 * x3_1)) ≤ a0
    rotate_left
    ·rw [if_neg c4] at H
     have c4b0 : decide ((wrap64 (x3_1 * x3_1)) ≤ a0) = false := decide_eq_false c4
     clear c4
     obtain rfl := Option.some.inj H
     go_wp2
     go_ret
     exact ⟨by first | rfl | (simp; done) | (simp [*]; done), by repeat (first | exact Drawn0.refl _ | apply Drawn0.step)⟩
    rw [if_pos c4] at H
    have c4b0 : decide ((wrap64 (x3_1 * x3_1)) ≤ a0) = true := decide_eq_true c4
    clear c4
    by_cases c5 : x3_1 = 0
    rotate_left
    ·rw [if_neg c5] at H
     have c5b0 : (x3_1 == 0) = false := beq_eq_false_iff_ne.mpr c5
     have c5b1 : (x3_1 != 0) = true := bne_iff_ne.mpr c5
     by_cases c6 : (Int.tmod a0 x3_1) = 0
     rotate_left
     ·rw [if_neg c6] at H
      have c6b0 : ((Int.tmod a0 x3_1) == 0) = false := beq_eq_false_iff_ne.mpr c6
      have c6b1 : ((Int.tmod a0 x3_1) != 0) = true := bne_iff_ne.mpr c6
      have H' := zA H
      clear H
      go_wp2
      go_roundg k1
      case measure => have := HK1.out; omega
      case rel => exact ⟨(wrap64 (x3_1 + 1)), (by first | rfl | (simp; done) | (simp [*]; done)), H', ⟨by have := HK1.out; omega⟩, by repeat (first | exact Drawn0.refl _ | apply Drawn0.step)⟩
     rw [if_pos c6] at H
     have c6b0 : ((Int.tmod a0 x3_1) == 0) = true := beq_iff_eq.mpr c6
     have c6b1 : ((Int.tmod a0 x3_1) != 0) = false := bne_eq_false_iff_eq.mpr c6
     clear c6
     obtain rfl := Option.some.inj H
     go_wp2
     go_ret
     exact ⟨by first | rfl | (simp; done) | (simp [*]; done), by repeat (first | exact Drawn0.refl _ | apply Drawn0.step)⟩
    rw [if_pos c5] at H
    exact absurd H (by simp)
 ·replace c3 := Bool.eq_false_iff.mpr c3
  subst c3
  have H1 : (some false) = some r := by rw [if_neg (show ¬ (false = true) by decide)] at H; exact H
  clear H
  have H := H1
  clear H1
  obtain rfl := Option.some.inj H
  go_enter Try.func36, Try.ntmps36
  go_wp2_with (first | ((with_reducible refine gate_callee (f := 37) rfl ?_); refine gL (some 5) Try.func37 #[.int .i64 a0, .int .i64 2, .int .i64 10007] ?_; (with_reducible refine (impl_within.calls a0 2 10007 false _ A2.out).mono ?_); rintro e w' ⟨rfl, ⟨nd, rfl⟩⟩; refine ⟨_, rfl, ?_⟩))
  go_ret
  exact ⟨by first | rfl | (simp; done) | (simp [*]; done), by repeat (first | exact Drawn0.refl _ | apply Drawn0.step)⟩
/-! ### slices_IndexFunc_ints: function 93 -/
def slices_IndexFunc_ints.l0 : Nat → List Int → (Int → Option Bool) → Int → Int → Option (Int)
 | 0, _, _, _, _ => none
 | k + 1, x0, x1, x7, x8 => if x8 < x7 then (if 0 ≤ x8 then (if x8 < (x0.length : Int) then ((x1 (rd x0 x8)).bind fun t427 => (if t427 = true then (some x8) else (slices_IndexFunc_ints.l0 k x0 x1 x7 (wrap64 (x8 + 1))))) else (none)) else (none)) else (some (-1))
def slices_IndexFunc_ints.f (k : Nat) (l0 : List Int) (a1 : (Int → Option Bool)) : Option (Int) := slices_IndexFunc_ints.l0 k l0 a1 (l0.length : Int) 0
set_option maxHeartbeats 8000000 in
set_option maxRecDepth 100000 in
theorem slices_IndexFunc_ints.calls (k : Nat) (A0 : Option Addr) (c0 : Nat) (l0 : List Int) (F1 : Value) (a1 : (Int → Option Bool)) (r : Int) (w : World) (hr0 : Kd.C (Kd.int .i64) w A0 l0.length l0) (hc0 : l0.length ≤ c0) (hF1 : FnI Try.prog w F1 a1) (h : slices_IndexFunc_ints.f k l0 a1 = some r) :
  Calls Try.prog 93 #[.slice A0 l0.length c0, F1] w fun e w' => e = .returned (.int .i64 r) ∧ Below w.heap.size w w' := by
 have HR0 := zA hr0
 have HC0 := zA hc0
 clear hr0 hc0
 obtain ⟨G1, fi1, ca1, rfl, hen1, hF1⟩ := hF1
 have hen1 : ∀ (args_ : Array Value) (w_ : World), (callFunc G1 args_).run Try.prog w_ = .ok (.enter G1 args_) w_ := hen1
 have HF1 := zA hF1
 clear hF1
 have HB := zA (Below.refl w.heap.size w)
 have H : (slices_IndexFunc_ints.l0 k l0 a1 (l0.length : Int) 0) = some r := h
 clear h
 have H' := zA H
 clear H
 go_enter Try.func93, Try.ntmps93
 go_wp2
 go_loopg [8] k (fun kq v8 w' => ∃ (x8_1 : Int), v8 = .int .i64 x8_1 ∧ Aside0 (slices_IndexFunc_ints.l0 kq l0 a1 (l0.length : Int) x8_1 = some r) ∧ Aside0 (kq ≤ k) ∧ Aside0 (Below w.heap.size w w'))
 case atStart => exact ⟨(0), (by first | rfl | (simp; done) | (simp [*]; done)), H', ⟨Nat.le_refl _⟩, ⟨uH HB.out⟩⟩
 case round =>
  clear H'
  try clear p2
  obtain ⟨x8_1, rfl, HA, HK1, HB⟩ := hrel
  cases gk with
  | zero => exact absurd HA.out (by simp [slices_IndexFunc_ints.l0])
  | succ k1 =>
   have H := HA.out
   clear HA
   simp only [slices_IndexFunc_ints.l0] at H
   by_cases c3 : x8_1 < (l0.length : Int)
   rotate_left
   ·rw [if_neg c3] at H
    have c3b0 : decide (x8_1 < (l0.length : Int)) = false := decide_eq_false c3
    clear c3
    obtain rfl := Option.some.inj H
    go_wp2
    go_ret
    exact ⟨by first | rfl | (simp [errW_none, errW_some] <;> rfl) | (simp [*, errW_none, errW_some] <;> rfl), uH HB.out⟩

   rw [if_pos c3] at H
   have c3b0 : decide (x8_1 < (l0.length : Int)) = true := decide_eq_true c3
   clear c3
   by_cases c4 : 0 ≤ x8_1
   rotate_left
   ·rw [if_neg c4] at H
    exact absurd H (by simp)
   rw [if_pos c4] at H
   have c4b0 : decide (0 ≤ x8_1) = true := decide_eq_true c4
   clear c4
   by_cases c5 : x8_1 < (l0.length : Int)
   rotate_left
   ·rw [if_neg c5] at H
    exact absurd H (by simp)
   rw [if_pos c5] at H
   have c5b0 : decide (x8_1 < (l0.length : Int)) = true := decide_eq_true c5
   clear c5
   replace H := Option.bind_eq_some_iff.mp H
   obtain ⟨t427, A60, H⟩ := H
   replace H : (if t427 = true then (some x8_1) else (slices_IndexFunc_ints.l0 k1 l0 a1 (l0.length : Int) (wrap64 (x8_1 + 1)))) = some r := H
   have A6 := zA A60
   clear A60
   by_cases c7 : t427 = true
   ·subst c7
    have H1 : (some x8_1) = some r := by rw [if_pos rfl] at H; exact H
    clear H
    have H := H1
    clear H1
    obtain rfl := Option.some.inj H
    have p426 : 0 ≤ (x8_1 : Int) := of_decide_eq_true (by first | (with_reducible assumption) | assumption)
    have q426 : x8_1 < (l0.length : Int) := of_decide_eq_true (by first | (with_reducible assumption) | assumption)
    obtain ⟨ad426, e426, hx426_0⟩ := Kd.at_int HR0.out x8_1 p426 q426
    cases e426
    replace hx426_0 := hc HB hx426_0
    replace p426 := eq_true p426
    replace q426 := eq_true q426
    go_wp2_with (first | (go_at_fn G1; refine calls_of_args (args' := fi1 ++ #[.int .i64 (rd l0 x8_1)] ++ ca1) (by simp) ?_; refine (HF1.out (rd l0 x8_1) _ A6.out _ (uH HB.out)).mono ?_; rintro e w8 ⟨rfl, hb⟩; replace HB := xH HB hb; (try clear hb)))
    go_ret
    exact ⟨by first | rfl | (simp [errW_none, errW_some] <;> rfl) | (simp [*, errW_none, errW_some] <;> rfl), uH HB.out⟩
   ·replace c7 := Bool.eq_false_iff.mpr c7
    subst c7
    have H1 : (slices_IndexFunc_ints.l0 k1 l0 a1 (l0.length : Int) (wrap64 (x8_1 + 1))) = some r := by rw [if_neg (show ¬ (false = true) by decide)] at H; exact H
    clear H
    have H := H1
    clear H1
    have H' := zA H
    clear H
    have p426 : 0 ≤ (x8_1 : Int) := of_decide_eq_true (by first | (with_reducible assumption) | assumption)
    have q426 : x8_1 < (l0.length : Int) := of_decide_eq_true (by first | (with_reducible assumption) | assumption)
    obtain ⟨ad426, e426, hx426_0⟩ := Kd.at_int HR0.out x8_1 p426 q426
    cases e426
    replace hx426_0 := hc HB hx426_0
    replace p426 := eq_true p426
    replace q426 := eq_true q426
    go_wp2_with (first | (go_at_fn G1; refine calls_of_args (args' := fi1 ++ #[.int .i64 (rd l0 x8_1)] ++ ca1) (by simp) ?_; refine (HF1.out (rd l0 x8_1) _ A6.out _ (uH HB.out)).mono ?_; rintro e w9 ⟨rfl, hb⟩; replace HB := xH HB hb; (try clear hb)))
    go_roundg k1
    case measure => have := HK1.out; omega
    case rel => exact ⟨(wrap64 (x8_1 + 1)), (by first | rfl | (simp; done) | (simp [*]; done)), H', ⟨by have := HK1.out; omega⟩, ⟨uH HB.out⟩⟩
/-! ### slices_ContainsFunc_ints: function 73 -/
def slices_ContainsFunc_ints.f (k : Nat) (l0 : List Int) (a1 : (Int → Option Bool)) : Option (Bool) := (slices_IndexFunc_ints.f k l0 a1).bind fun t428 => (some (decide (t428 ≥ 0)))
set_option maxHeartbeats 8000000 in
set_option maxRecDepth 100000 in
theorem slices_ContainsFunc_ints.calls (k : Nat) (A0 : Option Addr) (c0 : Nat) (l0 : List Int) (F1 : Value) (a1 : (Int → Option Bool)) (r : Bool) (w : World) (hr0 : Kd.C (Kd.int .i64) w A0 l0.length l0) (hc0 : l0.length ≤ c0) (hF1 : FnI Try.prog w F1 a1) (h : slices_ContainsFunc_ints.f k l0 a1 = some r) :
  Calls Try.prog 73 #[.slice A0 l0.length c0, F1] w fun e w' => e = .returned (.bool r) ∧ Below w.heap.size w w' := by
 have HR0 := zA hr0
 have HC0 := zA hc0
 clear hr0 hc0
 obtain ⟨G1, fi1, ca1, rfl, hen1, hF1⟩ := hF1
 have hen1 : ∀ (args_ : Array Value) (w_ : World), (callFunc G1 args_).run Try.prog w_ = .ok (.enter G1 args_) w_ := hen1
 have HF1 := zA hF1
 clear hF1
 have HB := zA (Below.refl w.heap.size w)
 have H : ((slices_IndexFunc_ints.f k l0 a1).bind fun t428 => (some (decide (t428 ≥ 0)))) = some r := h
 clear h
 replace H := Option.bind_eq_some_iff.mp H
 obtain ⟨t428, A30, H⟩ := H
 replace H : (some (decide (t428 ≥ 0))) = some r := H
 have A3 := zA A30
 clear A30
 obtain rfl := Option.some.inj H
 go_enter Try.func73, Try.ntmps73
 go_wp2_with (first | ((with_reducible refine gate_callee (f := 93) rfl ?_); refine gL (some 7) Try.func93 #[.slice A0 l0.length c0, (.func (.func G1) fi1 ca1)] ?_; (with_reducible refine (slices_IndexFunc_ints.calls k _ _ l0 _ a1 t428 _ ?side1 ?side2 ?side3 A3.out).mono ?_); (case side1 => exact uC HR0.out); (case side2 => exact HC0.out); (case side3 => exact FnI.later (uH HB.out) (show FnI Try.prog w (.func (.func G1) fi1 ca1) a1 from ⟨_, _, _, rfl, hen1, HF1.out⟩)); rintro e w4 ⟨rfl, hb⟩; refine ⟨_, rfl, ?_⟩; replace HB := xH HB hb; (try clear hb); (try clear hb2); (try clear hk); (try clear hi)))
 go_ret
 exact ⟨by first | rfl | (simp [errW_none, errW_some] <;> rfl) | (simp [*, errW_none, errW_some] <;> rfl), uH HB.out⟩
/-! ### impl_areAll_int64K: function 39 -/
def impl_areAll_int64K.f (k : Nat) (l0 : List Int) (a1 : (Int → Option Bool)) : Option (Bool) := (slices_ContainsFunc_ints.f k l0 (fun z_ => impl_areAll_int64_1.f z_ a1)).bind fun t431 => (some (!t431))
set_option maxHeartbeats 8000000 in
set_option maxRecDepth 100000 in
theorem impl_areAll_int64K.calls (k : Nat) (A0 : Option Addr) (c0 : Nat) (l0 : List Int) (F1 : Value) (a1 : (Int → Option Bool)) (r : Bool) (w : World) (hr0 : Kd.C (Kd.int .i64) w A0 l0.length l0) (hc0 : l0.length ≤ c0) (hF1 : FnI Try.prog w F1 a1) (h : impl_areAll_int64K.f k l0 a1 = some r) :
  Calls Try.prog 39 #[.slice A0 l0.length c0, F1] w fun e w' => e = .returned (.bool r) ∧ Below w.heap.size w w' := by
 have hmf : ∀ (fn_ : Fn) (first_ cap_ : Array Value) (w_ : World), (Instr.makeFunc fn_ first_ cap_).run Try.prog w_ = .ok (.func fn_ first_ cap_) w_ := fun _ _ _ _ => rfl
 have HR0 := zA hr0
 have HC0 := zA hc0
 clear hr0 hc0
 obtain ⟨G1, fi1, ca1, rfl, hen1, hF1⟩ := hF1
 have hen1 : ∀ (args_ : Array Value) (w_ : World), (callFunc G1 args_).run Try.prog w_ = .ok (.enter G1 args_) w_ := hen1
 have HF1 := zA hF1
 clear hF1
 have HB := zA (Below.refl w.heap.size w)
 have H : ((slices_ContainsFunc_ints.f k l0 (fun z_ => impl_areAll_int64_1.f z_ a1)).bind fun t431 => (some (!t431))) = some r := h
 clear h
 replace H := Option.bind_eq_some_iff.mp H
 obtain ⟨t431, A30, H⟩ := H
 replace H : (some (!t431)) = some r := H
 have A3 := zA A30
 clear A30
 obtain rfl := Option.some.inj H
 go_enter Try.func39, Try.ntmps39
 go_wp2_with (first | ((with_reducible refine gate_dst (N := 3) rfl ?_); refine bx 3 #[(.func (.func G1) fi1 ca1)] 49 ?_; intro gb430 hg w4 hbox hb; have BK430 := zA (hbox); have GW430 := gq HB hg; have GE430 := gq HB hg; replace HB := xH HB hb; have := geI GE430; clear hb hbox hg) | ((with_reducible refine gate_callee (f := 73) rfl ?_); refine gL (some 7) Try.func73 #[.slice A0 l0.length c0, (.func (.func 74) #[] #[.pointer (some ⟨gb430, 0, none⟩)])] ?_; (with_reducible refine (slices_ContainsFunc_ints.calls k _ _ l0 _ (fun z_ => impl_areAll_int64_1.f z_ a1) t431 _ ?side1 ?side2 ?side3 A3.out).mono ?_); (case side1 => exact uC ((Kd.C_below HR0.out HB.out))); (case side2 => exact HC0.out); (case side3 => exact FnI.of Try.func74 (by kernel_rfl) rfl (fun z_ r_ hr_ W_ hW_ => calls_of_args (args' := #[.int .i64 z_, .pointer (some ⟨gb430, 0, none⟩)]) (by simp) ((impl_areAll_int64_1.calls z_ _ _ a1 r_ W_ (blk_below (g := gb430) (o := .cells #[(.func (.func G1) fi1 ca1)] 49 (0, 0)) (uB BK430.out) hW_) (FnI.later hW_ (by exact FnI.later (uH HB.out) (show FnI Try.prog w (.func (.func G1) fi1 ca1) a1 from ⟨_, _, _, rfl, hen1, HF1.out⟩))) hr_).mono fun e_ W2_ h_ => ⟨h_.1, h_.2⟩))); rintro e w5 ⟨rfl, hb⟩; refine ⟨_, rfl, ?_⟩; replace BK430 := xB BK430 hb; replace HB := xH HB hb; (try clear hb); (try clear hb2); (try clear hk); (try clear hi)))
 go_ret
 exact ⟨by first | rfl | (simp [errW_none, errW_some] <;> rfl) | (simp [*, errW_none, errW_some] <;> rfl), uH HB.out⟩
/-! ### slices_IndexFunc_rows: function 110 -/
def slices_IndexFunc_rows.l0 : Nat → List (List Int) → (List Int → Option Bool) → Int → Int → Option (Int)
 | 0, _, _, _, _ => none
 | k + 1, x0, x1, x7, x8 => if x8 < x7 then (if 0 ≤ x8 then (if x8 < (x0.length : Int) then ((x1 (rd_L3 x0 x8)).bind fun t440 => (if t440 = true then (some x8) else (slices_IndexFunc_rows.l0 k x0 x1 x7 (wrap64 (x8 + 1))))) else (none)) else (none)) else (some (-1))
def slices_IndexFunc_rows.f (k : Nat) (l0 : List (List Int)) (a1 : (List Int → Option Bool)) : Option (Int) := slices_IndexFunc_rows.l0 k l0 a1 (l0.length : Int) 0
set_option maxHeartbeats 8000000 in
set_option maxRecDepth 100000 in
theorem slices_IndexFunc_rows.calls (k : Nat) (A0 : Option Addr) (c0 : Nat) (l0 : List (List Int)) (F1 : Value) (a1 : (List Int → Option Bool)) (r : Int) (w : World) (hr0 : Kd.C (Kd.slice 2 (Kd.int .i64)) w A0 l0.length l0) (hc0 : l0.length ≤ c0) (hF1 : FnL Try.prog w F1 a1) (h : slices_IndexFunc_rows.f k l0 a1 = some r) :
  Calls Try.prog 110 #[.slice A0 l0.length c0, F1] w fun e w' => e = .returned (.int .i64 r) ∧ Below w.heap.size w w' := by
 have HR0 := zA hr0
 have HC0 := zA hc0
 clear hr0 hc0
 obtain ⟨G1, fi1, ca1, rfl, hen1, hF1⟩ := hF1
 have hen1 : ∀ (args_ : Array Value) (w_ : World), (callFunc G1 args_).run Try.prog w_ = .ok (.enter G1 args_) w_ := hen1
 have HF1 := zA hF1
 clear hF1
 have HB := zA (Below.refl w.heap.size w)
 have H : (slices_IndexFunc_rows.l0 k l0 a1 (l0.length : Int) 0) = some r := h
 clear h
 have H' := zA H
 clear H
 go_enter Try.func110, Try.ntmps110
 go_wp2
 go_loopg [8] k (fun kq v8 w' => ∃ (x8_1 : Int), v8 = .int .i64 x8_1 ∧ Aside0 (slices_IndexFunc_rows.l0 kq l0 a1 (l0.length : Int) x8_1 = some r) ∧ Aside0 (kq ≤ k) ∧ Aside0 (Below w.heap.size w w'))
 case atStart => exact ⟨(0), (by first | rfl | (simp; done) | (simp [*]; done)), H', ⟨Nat.le_refl _⟩, ⟨uH HB.out⟩⟩
 case round =>
  clear H'
  (try clear c1);(try clear p2)
  obtain ⟨x8_1, rfl, HA, HK1, HB⟩ := hrel
  cases gk with
  | zero => exact absurd HA.out (by simp [slices_IndexFunc_rows.l0])
  | succ k1 =>
   have H := HA.out
   clear HA
   simp only [slices_IndexFunc_rows.l0] at H
   by_cases c3 : x8_1 < (l0.length : Int)
   rotate_left
   ·rw [if_neg c3] at H
    have c3b0 : decide (x8_1 < (l0.length : Int)) = false := decide_eq_false c3
    clear c3
    obtain rfl := Option.some.inj H
    go_wp2
    go_ret
    exact ⟨by first | rfl | (simp [errW_none, errW_some] <;> rfl) | (simp [*, errW_none, errW_some] <;> rfl), uH HB.out⟩

   rw [if_pos c3] at H
   have c3b0 : decide (x8_1 < (l0.length : Int)) = true := decide_eq_true c3
   clear c3
   by_cases c4 : 0 ≤ x8_1
   rotate_left
   ·rw [if_neg c4] at H
    exact absurd H (by simp)
   rw [if_pos c4] at H
   have c4b0 : decide (0 ≤ x8_1) = true := decide_eq_true c4
   clear c4
   by_cases c5 : x8_1 < (l0.length : Int)
   rotate_left
   ·rw [if_neg c5] at H
    exact absurd H (by simp)
   rw [if_pos c5] at H
   have c5b0 : decide (x8_1 < (l0.length : Int)) = true := decide_eq_true c5
   clear c5
   replace H := Option.bind_eq_some_iff.mp H
   obtain ⟨t440, A60, H⟩ := H
   replace H : (if t440 = true then (some x8_1) else (slices_IndexFunc_rows.l0 k1 l0 a1 (l0.length : Int) (wrap64 (x8_1 + 1)))) = some r := H
   have A6 := zA A60
   clear A60
   by_cases c7 : t440 = true
   ·subst c7
    have H1 : (some x8_1) = some r := by rw [if_pos rfl] at H; exact H
    clear H
    have H := H1
    clear H1
    obtain rfl := Option.some.inj H
    have p439 : 0 ≤ (x8_1 : Int) := of_decide_eq_true (by first | (with_reducible assumption) | assumption)
    have q439 : x8_1 < (l0.length : Int) := of_decide_eq_true (by first | (with_reducible assumption) | assumption)
    obtain ⟨ad439, A439_0, c439_0, e439, hx439_0, hl439_0, hi439_0⟩ := at_L3 HR0.out x8_1 p439 q439
    cases e439
    replace hx439_0 := hc HB hx439_0
    have HR439_0 := zA hi439_0
    have HC439_0 := zA hl439_0
    clear hi439_0 hl439_0
    replace p439 := eq_true p439
    replace q439 := eq_true q439
    go_wp2_with (first | (go_at_fn G1; refine calls_of_args (args' := fi1 ++ #[.slice A439_0 (rd_L3 l0 x8_1).length c439_0] ++ ca1) (by simp) ?_; refine (HF1.out (rd_L3 l0 x8_1) _ _ _ A6.out _ (uH HB.out) (by exact uC ((Kd.C_below HR439_0.out HB.out))) (by exact HC439_0.out)).mono ?_; rintro e w8 ⟨rfl, hb⟩; replace HB := xH HB hb; (try clear hb)))
    go_ret
    exact ⟨by first | rfl | (simp [errW_none, errW_some] <;> rfl) | (simp [*, errW_none, errW_some] <;> rfl), uH HB.out⟩
   ·replace c7 := Bool.eq_false_iff.mpr c7
    subst c7
    have H1 : (slices_IndexFunc_rows.l0 k1 l0 a1 (l0.length : Int) (wrap64 (x8_1 + 1))) = some r := by rw [if_neg (show ¬ (false = true) by decide)] at H; exact H
    clear H
    have H := H1
    clear H1
    have H' := zA H
    clear H
    have p439 : 0 ≤ (x8_1 : Int) := of_decide_eq_true (by first | (with_reducible assumption) | assumption)
    have q439 : x8_1 < (l0.length : Int) := of_decide_eq_true (by first | (with_reducible assumption) | assumption)
    obtain ⟨ad439, A439_0, c439_0, e439, hx439_0, hl439_0, hi439_0⟩ := at_L3 HR0.out x8_1 p439 q439
    cases e439
    replace hx439_0 := hc HB hx439_0
    have HR439_0 := zA hi439_0
    have HC439_0 := zA hl439_0
    clear hi439_0 hl439_0
    replace p439 := eq_true p439
    replace q439 := eq_true q439
    go_wp2_with (first | (go_at_fn G1; refine calls_of_args (args' := fi1 ++ #[.slice A439_0 (rd_L3 l0 x8_1).length c439_0] ++ ca1) (by simp) ?_; refine (HF1.out (rd_L3 l0 x8_1) _ _ _ A6.out _ (uH HB.out) (by exact uC ((Kd.C_below HR439_0.out HB.out))) (by exact HC439_0.out)).mono ?_; rintro e w9 ⟨rfl, hb⟩; replace HB := xH HB hb; (try clear hb)))
    go_roundg k1
    case measure => have := HK1.out; omega
    case rel => exact ⟨(wrap64 (x8_1 + 1)), (by first | rfl | (simp; done) | (simp [*]; done)), H', ⟨by have := HK1.out; omega⟩, ⟨uH HB.out⟩⟩
/-! ### slices_ContainsFunc_rows: function 98 -/
def slices_ContainsFunc_rows.f (k : Nat) (l0 : List (List Int)) (a1 : (List Int → Option Bool)) : Option (Bool) := (slices_IndexFunc_rows.f k l0 a1).bind fun t441 => (some (decide (t441 ≥ 0)))
set_option maxHeartbeats 8000000 in
set_option maxRecDepth 100000 in
theorem slices_ContainsFunc_rows.calls (k : Nat) (A0 : Option Addr) (c0 : Nat) (l0 : List (List Int)) (F1 : Value) (a1 : (List Int → Option Bool)) (r : Bool) (w : World) (hr0 : Kd.C (Kd.slice 2 (Kd.int .i64)) w A0 l0.length l0) (hc0 : l0.length ≤ c0) (hF1 : FnL Try.prog w F1 a1) (h : slices_ContainsFunc_rows.f k l0 a1 = some r) :
  Calls Try.prog 98 #[.slice A0 l0.length c0, F1] w fun e w' => e = .returned (.bool r) ∧ Below w.heap.size w w' := by
 have HR0 := zA hr0
 have HC0 := zA hc0
 clear hr0 hc0
 obtain ⟨G1, fi1, ca1, rfl, hen1, hF1⟩ := hF1
 have hen1 : ∀ (args_ : Array Value) (w_ : World), (callFunc G1 args_).run Try.prog w_ = .ok (.enter G1 args_) w_ := hen1
 have HF1 := zA hF1
 clear hF1
 have HB := zA (Below.refl w.heap.size w)
 have H : ((slices_IndexFunc_rows.f k l0 a1).bind fun t441 => (some (decide (t441 ≥ 0)))) = some r := h
 clear h
 replace H := Option.bind_eq_some_iff.mp H
 obtain ⟨t441, A30, H⟩ := H
 replace H : (some (decide (t441 ≥ 0))) = some r := H
 have A3 := zA A30
 clear A30
 obtain rfl := Option.some.inj H
 go_enter Try.func98, Try.ntmps98
 go_wp2_with (first | ((with_reducible refine gate_callee (f := 110) rfl ?_); refine gL (some 7) Try.func110 #[.slice A0 l0.length c0, (.func (.func G1) fi1 ca1)] ?_; (with_reducible refine (slices_IndexFunc_rows.calls k _ _ l0 _ a1 t441 _ ?side1 ?side2 ?side3 A3.out).mono ?_); (case side1 => exact uC HR0.out); (case side2 => exact HC0.out); (case side3 => exact FnL.later (uH HB.out) (show FnL Try.prog w (.func (.func G1) fi1 ca1) a1 from ⟨_, _, _, rfl, hen1, HF1.out⟩)); rintro e w4 ⟨rfl, hb⟩; refine ⟨_, rfl, ?_⟩; replace HB := xH HB hb; (try clear hb); (try clear hb2); (try clear hk); (try clear hi)))
 go_ret
 exact ⟨by first | rfl | (simp [errW_none, errW_some] <;> rfl) | (simp [*, errW_none, errW_some] <;> rfl), uH HB.out⟩
/-! ### impl_areAll_rowsK: function 79 -/
def impl_areAll_rowsK.f (k : Nat) (l0 : List (List Int)) (a1 : (List Int → Option Bool)) : Option (Bool) := (slices_ContainsFunc_rows.f k l0 (fun z_ => impl_areAll_rows_1.f z_ a1)).bind fun t444 => (some (!t444))
set_option maxHeartbeats 8000000 in
set_option maxRecDepth 100000 in
theorem impl_areAll_rowsK.calls (k : Nat) (A0 : Option Addr) (c0 : Nat) (l0 : List (List Int)) (F1 : Value) (a1 : (List Int → Option Bool)) (r : Bool) (w : World) (hr0 : Kd.C (Kd.slice 2 (Kd.int .i64)) w A0 l0.length l0) (hc0 : l0.length ≤ c0) (hF1 : FnL Try.prog w F1 a1) (h : impl_areAll_rowsK.f k l0 a1 = some r) :
  Calls Try.prog 79 #[.slice A0 l0.length c0, F1] w fun e w' => e = .returned (.bool r) ∧ Below w.heap.size w w' := by
 have hmf : ∀ (fn_ : Fn) (first_ cap_ : Array Value) (w_ : World), (Instr.makeFunc fn_ first_ cap_).run Try.prog w_ = .ok (.func fn_ first_ cap_) w_ := fun _ _ _ _ => rfl
 have HR0 := zA hr0
 have HC0 := zA hc0
 clear hr0 hc0
 obtain ⟨G1, fi1, ca1, rfl, hen1, hF1⟩ := hF1
 have hen1 : ∀ (args_ : Array Value) (w_ : World), (callFunc G1 args_).run Try.prog w_ = .ok (.enter G1 args_) w_ := hen1
 have HF1 := zA hF1
 clear hF1
 have HB := zA (Below.refl w.heap.size w)
 have H : ((slices_ContainsFunc_rows.f k l0 (fun z_ => impl_areAll_rows_1.f z_ a1)).bind fun t444 => (some (!t444))) = some r := h
 clear h
 replace H := Option.bind_eq_some_iff.mp H
 obtain ⟨t444, A30, H⟩ := H
 replace H : (some (!t444)) = some r := H
 have A3 := zA A30
 clear A30
 obtain rfl := Option.some.inj H
 go_enter Try.func79, Try.ntmps79
 go_wp2_with (first | ((with_reducible refine gate_dst (N := 3) rfl ?_); refine bx 3 #[(.func (.func G1) fi1 ca1)] 44 ?_; intro gb443 hg w4 hbox hb; have BK443 := zA (hbox); have GW443 := gq HB hg; have GE443 := gq HB hg; replace HB := xH HB hb; have := geI GE443; clear hb hbox hg) | ((with_reducible refine gate_callee (f := 98) rfl ?_); refine gL (some 7) Try.func98 #[.slice A0 l0.length c0, (.func (.func 99) #[] #[.pointer (some ⟨gb443, 0, none⟩)])] ?_; (with_reducible refine (slices_ContainsFunc_rows.calls k _ _ l0 _ (fun z_ => impl_areAll_rows_1.f z_ a1) t444 _ ?side1 ?side2 ?side3 A3.out).mono ?_); (case side1 => exact uC ((Kd.C_below HR0.out HB.out))); (case side2 => exact HC0.out); (case side3 => exact FnL.of Try.func99 (by kernel_rfl) rfl (fun z_ r_ A_ c_ hr_ W_ hW_ hC_ hc_ => calls_of_args (args' := #[.slice A_ z_.length c_, .pointer (some ⟨gb443, 0, none⟩)]) (by simp) ((impl_areAll_rows_1.calls A_ c_ z_ _ _ a1 r_ W_ hC_ hc_ (blk_below (g := gb443) (o := .cells #[(.func (.func G1) fi1 ca1)] 44 (0, 0)) (uB BK443.out) hW_) (FnL.later hW_ (by exact FnL.later (uH HB.out) (show FnL Try.prog w (.func (.func G1) fi1 ca1) a1 from ⟨_, _, _, rfl, hen1, HF1.out⟩))) hr_).mono fun e_ W2_ h_ => ⟨h_.1, h_.2⟩))); rintro e w5 ⟨rfl, hb⟩; refine ⟨_, rfl, ?_⟩; replace BK443 := xB BK443 hb; replace HB := xH HB hb; (try clear hb); (try clear hb2); (try clear hk); (try clear hi)))
 go_ret
 exact ⟨by first | rfl | (simp [errW_none, errW_some] <;> rfl) | (simp [*, errW_none, errW_some] <;> rfl), uH HB.out⟩
/-! ### spec_l01In: function 53 -/
def spec_l01In.f (a0 : Int) (a1 : Int) (a2 : Int) : Option (Bool) := if a0 ≥ a1 then (some (decide (a0 ≤ a2))) else (some false)
set_option maxHeartbeats 8000000 in
set_option maxRecDepth 100000 in
theorem spec_l01In.calls (a0 : Int) (a1 : Int) (a2 : Int) (r : Bool) (w : World) (h : spec_l01In.f a0 a1 a2 = some r) :
  Calls Try.prog 53 #[.int .i64 a0, .int .i64 a1, .int .i64 a2] w fun e w' => e = .returned (.bool r) ∧ Drawn0 w w' := by
 have H : (if a0 ≥ a1 then (some (decide (a0 ≤ a2))) else (some false)) = some r := h
 clear h
 by_cases c4 : a0 ≥ a1
 rotate_left
 ·rw [if_neg c4] at H
  have c4b0 : decide (a1 ≤ a0) = false := decide_eq_false c4
  clear c4
  obtain rfl := Option.some.inj H
  go_enter Try.func53, Try.ntmps53
  go_wp2
  go_ret
  exact ⟨by first | rfl | (simp; done) | (simp [*]; done), by repeat (first | exact Drawn0.refl _ | apply Drawn0.step)⟩

 rw [if_pos c4] at H
 have c4b0 : decide (a1 ≤ a0) = true := decide_eq_true c4
 clear c4
 obtain rfl := Option.some.inj H
 go_enter Try.func53, Try.ntmps53
 go_wp2
 go_ret
 exact ⟨by first | rfl | (simp; done) | (simp [*]; done), by repeat (first | exact Drawn0.refl _ | apply Drawn0.step)⟩
end Go.Proofs.Ytnpepkpogohcmaa.Pr
