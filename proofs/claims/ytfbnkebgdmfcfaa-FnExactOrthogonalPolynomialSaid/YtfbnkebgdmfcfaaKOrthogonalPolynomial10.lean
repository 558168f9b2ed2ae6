/- Texts of this session in one: what functions of the program compute, and plain facts of it, under the conditions that each theorem names. -/
import Derived.Test.YtfbnkebgdmfcfaaKFimplMomentsupTo
import Derived.Test.YtfbnkebgdmfcfaaKFspecOrthogonalPolynomial
import Derived.Test.YtfbnkebgdmfcfaaKFspecl04Polys
import Derived.Test.YtfbnkebgdmfcfaaKOrthogonalPolynomial1
import Derived.Test.YtfbnkebgdmfcfaaKOrthogonalPolynomial2
import Derived.Test.YtfbnkebgdmfcfaaKOrthogonalPolynomial5
import Derived.Test.YtfbnkebgdmfcfaaKOrthogonalPolynomial8
import Derived.Test.YtfbnkebgdmfcfaaKOrthogonalPolynomial9
namespace Go.Proofs.Ytfbnkebgdmfcfaa.Pr
open Go.RowKit Go.Proofs.YtfbnkebgdmfcfaaW.PrintWords Go.Proofs.YtfbnkebgdmfcfaaW.PrintLast Go.Proofs.YtfbnkebgdmfcfaaW.PrintMore
attribute [local go_sem] max2_int min2_int max_two min_two max_three min_three max_four min_four   -- for this text's walks alone
set_option linter.unusedVariables false
set_option linter.unusedSimpArgs false
/-! ### impl_OrthogonalPolynomial: function 39 -/
def impl_OrthogonalPolynomial.f (k : Nat) (a0_0 : Int) (l0_1 : List Int) (a1 : Int) : Option (List Int × Int) := (impl_OrthogonalPolynomial_1.f a1).bind fun t469 => ((impl_momentsCode.f k a0_0 l0_1 t469 ([] : List (List Int))).bind fun t470 => (if t470 = 0 then ((impl_Moments_upTo.f k a0_0 l0_1 a1).bind fun bt471 => (if bt471.2.2.2.2.2 = true then (if 0 ≤ a1 then (if a1 < (bt471.1.length : Int) then (some (rd_L1 bt471.1 a1, 0)) else (none)) else (none)) else (some (([] : List Int), 5)))) else (some (([] : List Int), t470))))
set_option maxHeartbeats 8000000 in
set_option maxRecDepth 100000 in
theorem impl_OrthogonalPolynomial.calls (k : Nat) (a0_0 : Int) (A0_1 : Option Addr) (c0_1 : Nat) (l0_1 : List Int) (a1 : Int) (r1 : List Int) (r2 : Int) (w : World) (hr0_1 : Kd.C (Kd.int .i64) w A0_1 l0_1.length l0_1) (hc0_1 : l0_1.length ≤ c0_1) (h : impl_OrthogonalPolynomial.f k a0_0 l0_1 a1 = some (r1, r2)) :
  Calls Try.prog 39 #[.agg #[.int .i64 a0_0, .slice A0_1 l0_1.length c0_1], .int .i64 a1] w fun e w' => ∃ v0_ : Value, e = .returned (.tuple #[v0_, .int .i64 r2]) ∧ Kd.R (Kd.int .i64) 2 w' w.heap.size (fun _ => True) v0_ r1 ∧ Below w.heap.size w w' := by
 have hu40 := Try.underlying40
 have hu95 := Try.underlying95
 have hmf : ∀ (fn_ : Fn) (first_ cap_ : Array Value) (w_ : World), (Instr.makeFunc fn_ first_ cap_).run Try.prog w_ = .ok (.func fn_ first_ cap_) w_ := fun _ _ _ _ => rfl
 have HR0_1 := zA hr0_1
 have HC0_1 := zA hc0_1
 clear hr0_1 hc0_1
 have HB := zA (Below.refl w.heap.size w)
 have H : ((impl_OrthogonalPolynomial_1.f a1).bind fun t469 => ((impl_momentsCode.f k a0_0 l0_1 t469 ([] : List (List Int))).bind fun t470 => (if t470 = 0 then ((impl_Moments_upTo.f k a0_0 l0_1 a1).bind fun bt471 => (if bt471.2.2.2.2.2 = true then (if 0 ≤ a1 then (if a1 < (bt471.1.length : Int) then (some (rd_L1 bt471.1 a1, 0)) else (none)) else (none)) else (some (([] : List Int), 5)))) else (some (([] : List Int), t470))))) = some (r1, r2) := h
 clear h
 replace H := Option.bind_eq_some_iff.mp H
 obtain ⟨t469, A30, H⟩ := H
 replace H : ((impl_momentsCode.f k a0_0 l0_1 t469 ([] : List (List Int))).bind fun t470 => (if t470 = 0 then ((impl_Moments_upTo.f k a0_0 l0_1 a1).bind fun bt471 => (if bt471.2.2.2.2.2 = true then (if 0 ≤ a1 then (if a1 < (bt471.1.length : Int) then (some (rd_L1 bt471.1 a1, 0)) else (none)) else (none)) else (some (([] : List Int), 5)))) else (some (([] : List Int), t470)))) = some (r1, r2) := H
 have A3 := zA A30
 clear A30
 replace H := Option.bind_eq_some_iff.mp H
 obtain ⟨t470, A40, H⟩ := H
 replace H : (if t470 = 0 then ((impl_Moments_upTo.f k a0_0 l0_1 a1).bind fun bt471 => (if bt471.2.2.2.2.2 = true then (if 0 ≤ a1 then (if a1 < (bt471.1.length : Int) then (some (rd_L1 bt471.1 a1, 0)) else (none)) else (none)) else (some (([] : List Int), 5)))) else (some (([] : List Int), t470))) = some (r1, r2) := H
 have A4 := zA A40
 clear A40
 by_cases c5 : t470 = 0
 ·rw [if_pos c5] at H
  have c5b0 : (t470 == 0) = true := beq_iff_eq.mpr c5
  have c5b1 : (t470 != 0) = false := bne_eq_false_iff_eq.mpr c5
  clear c5
  replace H := Option.bind_eq_some_iff.mp H
  obtain ⟨⟨t471, t474, t477, t478, t481, t484⟩, A60, H⟩ := H
  replace H : (if t484 = true then (if 0 ≤ a1 then (if a1 < (t471.length : Int) then (some (rd_L1 t471 a1, 0)) else (none)) else (none)) else (some (([] : List Int), 5))) = some (r1, r2) := H
  have A6 := zA A60
  clear A60
  by_cases c7 : t484 = true
  ·subst c7
   have H1 : (if 0 ≤ a1 then (if a1 < (t471.length : Int) then (some (rd_L1 t471 a1, 0)) else (none)) else (none)) = some (r1, r2) := by rw [if_pos rfl] at H; exact H
   clear H
   have H := H1
   clear H1
   by_cases c8 : 0 ≤ a1
   ·rw [if_pos c8] at H
    have c8b0 : decide (0 ≤ a1) = true := decide_eq_true c8
    clear c8
    by_cases c9 : a1 < (t471.length : Int)
    ·rw [if_pos c9] at H
     have c9b0 : decide (a1 < (t471.length : Int)) = true := decide_eq_true c9
     clear c9
     simp only [Option.some.injEq, Prod.mk.injEq] at H
     obtain ⟨rfl, rfl⟩ := H
     go_enter Try.func39, Try.ntmps39
     go_wp2_with (first | ((with_reducible refine gate_dst (N := 2) rfl ?_); refine box_event ?hg (N := 2) ?hd (cs := #[.int .i64 a0_0, .slice A0_1 l0_1.length c0_1]) (t := 40) ?hr ?_; (case hd => rfl); (case hg => rfl); (case hr => first | (go_simp; done) | (go_simp; rfl)); intro gb467 hg w10 hbox hb; have n0_ := xH HB hb; have n1_ := zA (hbox); have n2_ := zA ((by rw [hg]; exact (below_size (uH HB.out)) : w.heap.size ≤ gb467)); have n3_ := zA ((by rw [hg]; exact (below_size (uH HB.out)) : w.heap.size ≤ gb467)); clear HB; have HB := n0_; have BK467 := n1_; have GW467 := n2_; have GE467 := n3_; have := geI GE467; clear n0_ n1_ n2_ n3_ hb hbox hg) | ((with_reducible refine gate_dst (N := 3) rfl ?_); refine box_event ?hg (N := 3) ?hd (cs := #[.int .i64 a1]) (t := 2) ?hr ?_; (case hd => rfl); (case hg => rfl); (case hr => first | (go_simp; done) | (go_simp; rfl)); intro gb468 hg w11 hbox hb; have n0_ := xB BK467 hb; have n1_ := xH HB hb; have n2_ := zA (hbox); have n3_ := zA ((by rw [hg]; exact (below_size (uH HB.out)) : w.heap.size ≤ gb468)); have n4_ := zA ((by rw [hg]; exact (below_size (uH HB.out)) : w.heap.size ≤ gb468)); have n5_ := zA ((by rw [hg]; exact neL BK467 : gb467 ≠ gb468)); have n6_ := zA ((by rw [hg]; exact neG BK467 : gb468 ≠ gb467)); clear BK467 HB; have BK467 := n0_; have HB := n1_; have BK468 := n2_; have GW468 := n3_; have GE468 := n4_; have := geI GE468; have NB467_468 := n5_; have NB468_467 := n6_; clear n0_ n1_ n2_ n3_ n4_ n5_ n6_ hb hbox hg; have hnb12 := NB467_468.out; have hnc12 := NB468_467.out; have hcz13_0 : w11.cell? ⟨gb467, 0, none⟩ = some (.int .i64 a0_0) := (blk_cell BK467.out 0).trans rfl; have hcz13_1 : w11.cell? ⟨gb467, 1, none⟩ = some (.slice A0_1 l0_1.length c0_1) := (blk_cell BK467.out 1).trans rfl; have hfz13_0 := blk_frozen BK467.out 0; have hfz13_1 := blk_frozen BK467.out 1) | ((with_reducible refine gate_callee (f := 68) rfl ?_); refine goesL_ (some 11) rfl rfl Try.func68 (by kernel_rfl) rfl #[.agg #[.int .i64 a0_0, .slice A0_1 l0_1.length c0_1], (.func (.func 90) #[] #[.pointer (some ⟨gb468, 0, none⟩)]), .slice none 0 0] rfl (by (try simp only [la, lb, lc]); first | done | rfl | (simp only [ld, le]; rfl)) ?_; (refine (impl_momentsCode.calls k a0_0 _ _ l0_1 _ t469 _ _ ([] : List (List Int)) t470 _ ?side1 ?side2 ?side3 ?side4 ?side5 A4.out).mono ?_); (case side1 => exact uC ((Kd.C_below HR0_1.out HB.out))); (case side2 => exact HC0_1.out); (case side3 => exact FnB.of Try.func90 (by kernel_rfl) rfl (fun W_ hW_ => calls_of_args (args' := #[.pointer (some ⟨gb468, 0, none⟩)]) (by simp) ((impl_OrthogonalPolynomial_1.calls _ a1 _ W_ (blk_below (g := gb468) (o := .cells #[.int .i64 a1] 2 (0, 0)) (uB BK468.out) hW_) A3.out).mono fun e_ W2_ h_ => ⟨h_.1, h_.2.below⟩))); (case side4 => exact Kd.C_nil _ _); (case side5 => exact Nat.le_refl _); rintro e w14 ⟨rfl, hb⟩; refine ⟨_, rfl, ?_⟩; have n0_ := xB BK467 hb; have n1_ := xB BK468 hb; have n2_ := xH HB hb; clear BK467 BK468 HB; have BK467 := n0_; have BK468 := n1_; have HB := n2_; clear n0_ n1_ n2_; (try clear hb); (try clear hb2); (try clear hk); (try clear hi); have hcz15_0 : w14.cell? ⟨gb467, 0, none⟩ = some (.int .i64 a0_0) := (blk_cell BK467.out 0).trans rfl; have hcz15_1 : w14.cell? ⟨gb467, 1, none⟩ = some (.slice A0_1 l0_1.length c0_1) := (blk_cell BK467.out 1).trans rfl; have hfz15_0 := blk_frozen BK467.out 0; have hfz15_1 := blk_frozen BK467.out 1; have hcz16_0 : w14.cell? ⟨gb468, 0, none⟩ = some (.int .i64 a1) := (blk_cell BK468.out 0).trans rfl; have hfz16_0 := blk_frozen BK468.out 0) | ((with_reducible refine gate_callee (f := 88) rfl ?_); refine goesL_ (some 18) rfl rfl Try.func88 (by kernel_rfl) rfl #[.agg #[.int .i64 a0_0, .slice A0_1 l0_1.length c0_1], .int .i64 a1] rfl (by (try simp only [la, lb, lc]); first | done | rfl | (simp only [ld, le]; rfl)) ?_; (with_reducible refine (impl_Moments_upTo.callsR k a0_0 _ _ l0_1 a1 t471 t474 t477 t478 t481 true _ ?side1 ?side2 A6.out).mono ?_); (case side1 => exact uC ((Kd.C_below HR0_1.out HB.out))); (case side2 => exact HC0_1.out); rintro e w17 ⟨v472, v475, v479, v482, rfl, ho0, ho1, ho2, ho3, hb⟩; refine ⟨_, rfl, ?_⟩; have n0_ := zA (Kd.R_lower (Kd.R_mono (ok' := fun k_ => (w.heap.size ≤ k_) ∧ some k_ ≠ (v475 : Value).ownBlock ∧ some k_ ≠ (v479 : Value).ownBlock ∧ some k_ ≠ (v482 : Value).ownBlock ∧ k_ ≠ gb467 ∧ k_ ≠ gb468) ho0 (fun k_ hk_ => ⟨(Nat.le_trans (below_size (uH HB.out)) hk_.1), hk_.2.1, hk_.2.2.1, hk_.2.2.2, (Kd.freshB (g := gb467) (o := .cells #[.int .i64 a0_0, .slice A0_1 l0_1.length c0_1] 40 (0, 0)) (uB BK467.out) k_ hk_.1), (Kd.freshB (g := gb468) (o := .cells #[.int .i64 a1] 2 (0, 0)) (uB BK468.out) k_ hk_.1)⟩)) (below_size (uH HB.out))); have n1_ := zA (Kd.R_lower (Kd.R_newB (Kd.R_newM (M := fun k_ => (w.heap.size ≤ k_)) (Kd.R_mono (ok' := fun k_ => some k_ ≠ (v479 : Value).ownBlock ∧ some k_ ≠ (v482 : Value).ownBlock) ho1 (fun _ hk_ => hk_.2)) (below_size (uH HB.out)) (fun k_ h_ => h_)) (g := gb468) (o := .cells #[.int .i64 a1] 2 (0, 0)) (uB BK468.out)) (below_size (uH HB.out))); have n2_ := zA (Kd.R_lower (Kd.R_newB (Kd.R_newM (M := fun k_ => (w.heap.size ≤ k_)) (Kd.R_mono (ok' := fun k_ => some k_ ≠ (v475 : Value).ownBlock ∧ some k_ ≠ (v482 : Value).ownBlock) ho2 (fun _ hk_ => hk_.2)) (below_size (uH HB.out)) (fun k_ h_ => h_)) (g := gb468) (o := .cells #[.int .i64 a1] 2 (0, 0)) (uB BK468.out)) (below_size (uH HB.out))); have n3_ := zA (Kd.R_lower (Kd.R_newB (Kd.R_newM (M := fun k_ => (w.heap.size ≤ k_)) (Kd.R_mono (ok' := fun k_ => some k_ ≠ (v475 : Value).ownBlock ∧ some k_ ≠ (v479 : Value).ownBlock) ho3 (fun _ hk_ => hk_.2)) (below_size (uH HB.out)) (fun k_ h_ => h_)) (g := gb468) (o := .cells #[.int .i64 a1] 2 (0, 0)) (uB BK468.out)) (below_size (uH HB.out))); have n4_ := xB BK467 hb; have n5_ := xB BK468 hb; have n6_ := xH HB hb; clear BK467 BK468 HB; have HO473 := n0_; have HO476 := n1_; have HO480 := n2_; have HO483 := n3_; have BK467 := n4_; have BK468 := n5_; have HB := n6_; clear n0_ n1_ n2_ n3_ n4_ n5_ n6_; (try clear hb); (try clear hb2); (try clear hk); (try clear hi); (try clear ho0); (try clear ho1); (try clear ho2); (try clear ho3)) | ((with_reducible refine gate_dst (N := 7) rfl ?_); refine box_event ?hg (N := 7) ?hd (cs := #[.slice none 0 0, .slice none 0 0, .int .i64 0, .slice none 0 0, .slice none 0 0]) (t := 95) ?hr ?_; (case hd => rfl); (case hg => rfl); (case hr => first | (go_simp; done) | (go_simp; rfl)); intro gb485 hg w18 hbox hb; have n0_ := zA (Kd.R_below (Kd.R_elderB (uR HO473.out) gb485 (Nat.le_of_eq hg.symm)) hb); have n1_ := xR HO476 hb; have n2_ := xR HO480 hb; have n3_ := xR HO483 hb; have n4_ := xB BK467 hb; have n5_ := xB BK468 hb; have n6_ := xH HB hb; have n7_ := zA (hbox); have n8_ := zA ((by rw [hg]; exact (below_size (uH HB.out)) : w.heap.size ≤ gb485)); have n9_ := zA ((by rw [hg]; exact (below_size (uH HB.out)) : w.heap.size ≤ gb485)); have n10_ := zA ((by rw [hg]; exact neL BK467 : gb467 ≠ gb485)); have n11_ := zA ((by rw [hg]; exact neG BK467 : gb485 ≠ gb467)); have n12_ := zA ((by rw [hg]; exact neL BK468 : gb468 ≠ gb485)); have n13_ := zA ((by rw [hg]; exact neG BK468 : gb485 ≠ gb468)); clear HO473 HO476 HO480 HO483 BK467 BK468 HB; have HO473 := n0_; have HO476 := n1_; have HO480 := n2_; have HO483 := n3_; have BK467 := n4_; have BK468 := n5_; have HB := n6_; have BK485 := n7_; have GW485 := n8_; have GE485 := n9_; have := geI GE485; have NB467_485 := n10_; have NB485_467 := n11_; have NB468_485 := n12_; have NB485_468 := n13_; clear n0_ n1_ n2_ n3_ n4_ n5_ n6_ n7_ n8_ n9_ n10_ n11_ n12_ n13_ hb hbox hg; obtain ⟨Ao19, co19, eo19⟩ := Kd.R_slice HO473.out; subst eo19; have hnb20 := NB485_467.out; have hnc20 := NB467_485.out; have hnb21 := NB485_468.out; have hnc21 := NB468_485.out; have hcz22_0 : w18.cell? ⟨gb485, 0, none⟩ = some (.slice none 0 0) := (blk_cell BK485.out 0).trans rfl; have hcz22_1 : w18.cell? ⟨gb485, 1, none⟩ = some (.slice none 0 0) := (blk_cell BK485.out 1).trans rfl; have hcz22_2 : w18.cell? ⟨gb485, 2, none⟩ = some (.int .i64 0) := (blk_cell BK485.out 2).trans rfl; have hcz22_3 : w18.cell? ⟨gb485, 3, none⟩ = some (.slice none 0 0) := (blk_cell BK485.out 3).trans rfl; have hcz22_4 : w18.cell? ⟨gb485, 4, none⟩ = some (.slice none 0 0) := (blk_cell BK485.out 4).trans rfl; have hfz22_0 := blk_frozen BK485.out 0; have hfz22_1 := blk_frozen BK485.out 1; have hfz22_2 := blk_frozen BK485.out 2; have hfz22_3 := blk_frozen BK485.out 3; have hfz22_4 := blk_frozen BK485.out 4; obtain ⟨Ao23, co23, eo23⟩ := Kd.R_slice HO476.out; subst eo23; obtain ⟨Ao24, co24, eo24⟩ := Kd.R_slice HO480.out; subst eo24; obtain ⟨Ao25, co25, eo25⟩ := Kd.R_slice HO483.out; subst eo25) | ((with_reducible refine gate_store (t := 95) (p := 7) rfl ?_); refine store_event (t := 95) (p := 7) (v := ?vo_w26) (w1 := (((((w18.setCell ⟨gb485, 0, none⟩ (.slice Ao19 t471.length co19)).setCell ⟨gb485, 1, none⟩ (.slice Ao23 t474.length co23)).setCell ⟨gb485, 2, none⟩ (.int .i64 t477)).setCell ⟨gb485, 3, none⟩ (.slice Ao24 t478.length co24)).setCell ⟨gb485, 4, none⟩ (.slice Ao25 t481.length co25))) ?hg ?ho ?hn ?hr ?_; (case ho => rfl); (case hg => rfl); (case hn => rfl); (case hr => first | (go_simp; done) | (go_simp; rfl)); intro w26 hw; have n0_ : Aside0 (Kd.R (Kd.slice 2 (Kd.int .i64)) 22 w26 w.heap.size (fun k_ => (w.heap.size ≤ k_) ∧ some k_ ≠ (.slice Ao23 t474.length co23 : Value).ownBlock ∧ some k_ ≠ (.slice Ao24 t478.length co24 : Value).ownBlock ∧ some k_ ≠ (.slice Ao25 t481.length co25 : Value).ownBlock ∧ k_ ≠ gb467 ∧ k_ ≠ gb468 ∧ k_ ≠ gb485) (.slice Ao19 t471.length co19) t471) := ⟨(by rw [hw]; exact (uR (Kd.R_mono (Kd.R_far (p := ⟨gb485, 4, none⟩) (Kd.R_far (p := ⟨gb485, 3, none⟩) (Kd.R_far (p := ⟨gb485, 2, none⟩) (Kd.R_far (p := ⟨gb485, 1, none⟩) (Kd.R_far (p := ⟨gb485, 0, none⟩) (Kd.R_mono HO473.out (fun k_ hk => (⟨hk, hk.2⟩ : _ ∧ k_ ≠ gb485))) (fun _ hk => hk.2) (.slice Ao19 t471.length co19)) (fun _ hk => hk.2) (.slice Ao23 t474.length co23)) (fun _ hk => hk.2) (.int .i64 t477)) (fun _ hk => hk.2) (.slice Ao24 t478.length co24)) (fun _ hk => hk.2) (.slice Ao25 t481.length co25)) (fun _ hk => ⟨hk.1.1.1, ⟨hk.1.1.2.1, ⟨hk.1.1.2.2.1, ⟨hk.1.1.2.2.2.1, ⟨hk.1.1.2.2.2.2.1, ⟨hk.1.1.2.2.2.2.2, hk.1.2⟩⟩⟩⟩⟩⟩))))⟩; have n1_ : Aside0 (Kd.R (Kd.int .i64) 2 w26 w.heap.size (fun k_ => (w.heap.size ≤ k_) ∧ some k_ ≠ (.slice Ao24 t478.length co24 : Value).ownBlock ∧ some k_ ≠ (.slice Ao25 t481.length co25 : Value).ownBlock ∧ k_ ≠ gb468) (.slice Ao23 t474.length co23) t474) := ⟨(by rw [hw]; exact (uR (Kd.R_mono (Kd.R_far (p := ⟨gb485, 4, none⟩) (Kd.R_far (p := ⟨gb485, 3, none⟩) (Kd.R_far (p := ⟨gb485, 2, none⟩) (Kd.R_far (p := ⟨gb485, 1, none⟩) (Kd.R_far (p := ⟨gb485, 0, none⟩) (Kd.R_types HO476.out BK485.out (by decide)) (fun _ hk => hk.2) (.slice Ao19 t471.length co19)) (fun _ hk => hk.2) (.slice Ao23 t474.length co23)) (fun _ hk => hk.2) (.int .i64 t477)) (fun _ hk => hk.2) (.slice Ao24 t478.length co24)) (fun _ hk => hk.2) (.slice Ao25 t481.length co25)) (fun _ hk => ⟨hk.1.1.1, ⟨hk.1.1.2.1, ⟨hk.1.1.2.2, hk.1.2⟩⟩⟩))))⟩; have n2_ : Aside0 (Kd.R (Kd.int .i64) 2 w26 w.heap.size (fun k_ => (w.heap.size ≤ k_) ∧ some k_ ≠ (.slice Ao23 t474.length co23 : Value).ownBlock ∧ some k_ ≠ (.slice Ao25 t481.length co25 : Value).ownBlock ∧ k_ ≠ gb468) (.slice Ao24 t478.length co24) t478) := ⟨(by rw [hw]; exact (uR (Kd.R_mono (Kd.R_far (p := ⟨gb485, 4, none⟩) (Kd.R_far (p := ⟨gb485, 3, none⟩) (Kd.R_far (p := ⟨gb485, 2, none⟩) (Kd.R_far (p := ⟨gb485, 1, none⟩) (Kd.R_far (p := ⟨gb485, 0, none⟩) (Kd.R_types HO480.out BK485.out (by decide)) (fun _ hk => hk.2) (.slice Ao19 t471.length co19)) (fun _ hk => hk.2) (.slice Ao23 t474.length co23)) (fun _ hk => hk.2) (.int .i64 t477)) (fun _ hk => hk.2) (.slice Ao24 t478.length co24)) (fun _ hk => hk.2) (.slice Ao25 t481.length co25)) (fun _ hk => ⟨hk.1.1.1, ⟨hk.1.1.2.1, ⟨hk.1.1.2.2, hk.1.2⟩⟩⟩))))⟩; have n3_ : Aside0 (Kd.R (Kd.int .i64) 2 w26 w.heap.size (fun k_ => (w.heap.size ≤ k_) ∧ some k_ ≠ (.slice Ao23 t474.length co23 : Value).ownBlock ∧ some k_ ≠ (.slice Ao24 t478.length co24 : Value).ownBlock ∧ k_ ≠ gb468) (.slice Ao25 t481.length co25) t481) := ⟨(by rw [hw]; exact (uR (Kd.R_mono (Kd.R_far (p := ⟨gb485, 4, none⟩) (Kd.R_far (p := ⟨gb485, 3, none⟩) (Kd.R_far (p := ⟨gb485, 2, none⟩) (Kd.R_far (p := ⟨gb485, 1, none⟩) (Kd.R_far (p := ⟨gb485, 0, none⟩) (Kd.R_types HO483.out BK485.out (by decide)) (fun _ hk => hk.2) (.slice Ao19 t471.length co19)) (fun _ hk => hk.2) (.slice Ao23 t474.length co23)) (fun _ hk => hk.2) (.int .i64 t477)) (fun _ hk => hk.2) (.slice Ao24 t478.length co24)) (fun _ hk => hk.2) (.slice Ao25 t481.length co25)) (fun _ hk => ⟨hk.1.1.1, ⟨hk.1.1.2.1, ⟨hk.1.1.2.2, hk.1.2⟩⟩⟩))))⟩; have n4_ : Aside0 (w26.heap[gb467]? = some (.cells #[.int .i64 a0_0, .slice A0_1 l0_1.length c0_1] 40 (0, 0))) := ⟨(by rw [hw]; exact (by (with_reducible repeat (first | refine blk_drewN ?_ _ | refine blk_drew ?_ | refine blk_alloc ?_ _)); refine blk_far ?_ NB467_485.out _; (with_reducible repeat (first | refine blk_drewN ?_ _ | refine blk_drew ?_ | refine blk_alloc ?_ _)); refine blk_far ?_ NB467_485.out _; (with_reducible repeat (first | refine blk_drewN ?_ _ | refine blk_drew ?_ | refine blk_alloc ?_ _)); refine blk_far ?_ NB467_485.out _; (with_reducible repeat (first | refine blk_drewN ?_ _ | refine blk_drew ?_ | refine blk_alloc ?_ _)); refine blk_far ?_ NB467_485.out _; (with_reducible repeat (first | refine blk_drewN ?_ _ | refine blk_drew ?_ | refine blk_alloc ?_ _)); refine blk_far ?_ NB467_485.out _; (with_reducible repeat (first | refine blk_drewN ?_ _ | refine blk_drew ?_ | refine blk_alloc ?_ _)); exact BK467.out))⟩; have n5_ : Aside0 (w26.heap[gb468]? = some (.cells #[.int .i64 a1] 2 (0, 0))) := ⟨(by rw [hw]; exact (by (with_reducible repeat (first | refine blk_drewN ?_ _ | refine blk_drew ?_ | refine blk_alloc ?_ _)); refine blk_far ?_ NB468_485.out _; (with_reducible repeat (first | refine blk_drewN ?_ _ | refine blk_drew ?_ | refine blk_alloc ?_ _)); refine blk_far ?_ NB468_485.out _; (with_reducible repeat (first | refine blk_drewN ?_ _ | refine blk_drew ?_ | refine blk_alloc ?_ _)); refine blk_far ?_ NB468_485.out _; (with_reducible repeat (first | refine blk_drewN ?_ _ | refine blk_drew ?_ | refine blk_alloc ?_ _)); refine blk_far ?_ NB468_485.out _; (with_reducible repeat (first | refine blk_drewN ?_ _ | refine blk_drew ?_ | refine blk_alloc ?_ _)); refine blk_far ?_ NB468_485.out _; (with_reducible repeat (first | refine blk_drewN ?_ _ | refine blk_drew ?_ | refine blk_alloc ?_ _)); exact BK468.out))⟩; have n6_ : Aside0 (w26.heap[gb485]? = some (.cells #[.slice Ao19 t471.length co19, .slice Ao23 t474.length co23, .int .i64 t477, .slice Ao24 t478.length co24, .slice Ao25 t481.length co25] 95 (0, 0))) := ⟨(by rw [hw]; exact (by (with_reducible repeat (first | refine blk_drewN ?_ _ | refine blk_drew ?_ | refine blk_alloc ?_ _)); refine blk_put (cs := #[.slice Ao19 t471.length co19, .slice Ao23 t474.length co23, .int .i64 t477, .slice Ao24 t478.length co24, .slice none 0 0]) ?_ 4 _ rfl; (with_reducible repeat (first | refine blk_drewN ?_ _ | refine blk_drew ?_ | refine blk_alloc ?_ _)); refine blk_put (cs := #[.slice Ao19 t471.length co19, .slice Ao23 t474.length co23, .int .i64 t477, .slice none 0 0, .slice none 0 0]) ?_ 3 _ rfl; (with_reducible repeat (first | refine blk_drewN ?_ _ | refine blk_drew ?_ | refine blk_alloc ?_ _)); refine blk_put (cs := #[.slice Ao19 t471.length co19, .slice Ao23 t474.length co23, .int .i64 0, .slice none 0 0, .slice none 0 0]) ?_ 2 _ rfl; (with_reducible repeat (first | refine blk_drewN ?_ _ | refine blk_drew ?_ | refine blk_alloc ?_ _)); refine blk_put (cs := #[.slice Ao19 t471.length co19, .slice none 0 0, .int .i64 0, .slice none 0 0, .slice none 0 0]) ?_ 1 _ rfl; (with_reducible repeat (first | refine blk_drewN ?_ _ | refine blk_drew ?_ | refine blk_alloc ?_ _)); refine blk_put (cs := #[.slice none 0 0, .slice none 0 0, .int .i64 0, .slice none 0 0, .slice none 0 0]) ?_ 0 _ rfl; (with_reducible repeat (first | refine blk_drewN ?_ _ | refine blk_drew ?_ | refine blk_alloc ?_ _)); exact BK485.out))⟩; have n7_ : Aside0 (Below w.heap.size w w26) := ⟨(by rw [hw]; exact (uH HB.out))⟩; clear hw HO473 HO476 HO480 HO483 BK467 BK468 BK485 HB; have HO473 := n0_; have HO476 := n1_; have HO480 := n2_; have HO483 := n3_; have BK467 := n4_; have BK468 := n5_; have BK485 := n6_; have HB := n7_; clear n0_ n1_ n2_ n3_ n4_ n5_ n6_ n7_; have hcz27_0 : w26.cell? ⟨gb485, 0, none⟩ = some (.slice Ao19 t471.length co19) := (blk_cell BK485.out 0).trans rfl; have hcz27_1 : w26.cell? ⟨gb485, 1, none⟩ = some (.slice Ao23 t474.length co23) := (blk_cell BK485.out 1).trans rfl; have hcz27_2 : w26.cell? ⟨gb485, 2, none⟩ = some (.int .i64 t477) := (blk_cell BK485.out 2).trans rfl; have hcz27_3 : w26.cell? ⟨gb485, 3, none⟩ = some (.slice Ao24 t478.length co24) := (blk_cell BK485.out 3).trans rfl; have hcz27_4 : w26.cell? ⟨gb485, 4, none⟩ = some (.slice Ao25 t481.length co25) := (blk_cell BK485.out 4).trans rfl; have hfz27_0 := blk_frozen BK485.out 0; have hfz27_1 := blk_frozen BK485.out 1; have hfz27_2 := blk_frozen BK485.out 2; have hfz27_3 := blk_frozen BK485.out 3; have hfz27_4 := blk_frozen BK485.out 4; have hcz28_0 : w26.cell? ⟨gb468, 0, none⟩ = some (.int .i64 a1) := (blk_cell BK468.out 0).trans rfl; have hfz28_0 := blk_frozen BK468.out 0; have p486 : 0 ≤ (a1 : Int) := of_decide_eq_true (by first | (with_reducible assumption) | assumption); have q486 : a1 < (t471.length : Int) := of_decide_eq_true (by first | (with_reducible assumption) | assumption); obtain ⟨ad486, A486_0, c486_0, e486, hx486_0, hl486_0, hi486_0⟩ := at_L1 (Kd.R_reads' HO473.out).2.2 a1 p486 q486; cases e486; have HL486_0 := zA (R_elemA HO473.out a1 p486 q486 hx486_0); have HR486_0 := zA hi486_0; have HC486_0 := zA hl486_0; clear hi486_0 hl486_0; replace p486 := eq_true p486; replace q486 := eq_true q486))
     go_ret2
     exact ⟨_, by first | rfl | (simp [errW_none, errW_some] <;> rfl) | (simp [*, errW_none, errW_some] <;> rfl), uR (Kd.R_mono HL486_0.out (fun _ _ => trivial)), uH HB.out⟩
    ·rw [if_neg c9] at H
     exact absurd H (by simp)
   ·rw [if_neg c8] at H
    exact absurd H (by simp)
  ·replace c7 := Bool.eq_false_iff.mpr c7
   subst c7
   have H1 : (some (([] : List Int), 5)) = some (r1, r2) := by rw [if_neg (show ¬ (false = true) by decide)] at H; exact H
   clear H
   have H := H1
   clear H1
   simp only [Option.some.injEq, Prod.mk.injEq] at H
   obtain ⟨rfl, rfl⟩ := H
   go_enter Try.func39, Try.ntmps39
   go_wp2_with (first | ((with_reducible refine gate_dst (N := 2) rfl ?_); refine box_event ?hg (N := 2) ?hd (cs := #[.int .i64 a0_0, .slice A0_1 l0_1.length c0_1]) (t := 40) ?hr ?_; (case hd => rfl); (case hg => rfl); (case hr => first | (go_simp; done) | (go_simp; rfl)); intro gb467 hg w29 hbox hb; have n0_ := xH HB hb; have n1_ := zA (hbox); have n2_ := zA ((by rw [hg]; exact (below_size (uH HB.out)) : w.heap.size ≤ gb467)); have n3_ := zA ((by rw [hg]; exact (below_size (uH HB.out)) : w.heap.size ≤ gb467)); clear HB; have HB := n0_; have BK467 := n1_; have GW467 := n2_; have GE467 := n3_; have := geI GE467; clear n0_ n1_ n2_ n3_ hb hbox hg) | ((with_reducible refine gate_dst (N := 3) rfl ?_); refine box_event ?hg (N := 3) ?hd (cs := #[.int .i64 a1]) (t := 2) ?hr ?_; (case hd => rfl); (case hg => rfl); (case hr => first | (go_simp; done) | (go_simp; rfl)); intro gb468 hg w30 hbox hb; have n0_ := xB BK467 hb; have n1_ := xH HB hb; have n2_ := zA (hbox); have n3_ := zA ((by rw [hg]; exact (below_size (uH HB.out)) : w.heap.size ≤ gb468)); have n4_ := zA ((by rw [hg]; exact (below_size (uH HB.out)) : w.heap.size ≤ gb468)); have n5_ := zA ((by rw [hg]; exact neL BK467 : gb467 ≠ gb468)); have n6_ := zA ((by rw [hg]; exact neG BK467 : gb468 ≠ gb467)); clear BK467 HB; have BK467 := n0_; have HB := n1_; have BK468 := n2_; have GW468 := n3_; have GE468 := n4_; have := geI GE468; have NB467_468 := n5_; have NB468_467 := n6_; clear n0_ n1_ n2_ n3_ n4_ n5_ n6_ hb hbox hg; have hnb31 := NB467_468.out; have hnc31 := NB468_467.out; have hcz32_0 : w30.cell? ⟨gb467, 0, none⟩ = some (.int .i64 a0_0) := (blk_cell BK467.out 0).trans rfl; have hcz32_1 : w30.cell? ⟨gb467, 1, none⟩ = some (.slice A0_1 l0_1.length c0_1) := (blk_cell BK467.out 1).trans rfl; have hfz32_0 := blk_frozen BK467.out 0; have hfz32_1 := blk_frozen BK467.out 1) | ((with_reducible refine gate_callee (f := 68) rfl ?_); refine goesL_ (some 11) rfl rfl Try.func68 (by kernel_rfl) rfl #[.agg #[.int .i64 a0_0, .slice A0_1 l0_1.length c0_1], (.func (.func 90) #[] #[.pointer (some ⟨gb468, 0, none⟩)]), .slice none 0 0] rfl (by (try simp only [la, lb, lc]); first | done | rfl | (simp only [ld, le]; rfl)) ?_; (refine (impl_momentsCode.calls k a0_0 _ _ l0_1 _ t469 _ _ ([] : List (List Int)) t470 _ ?side1 ?side2 ?side3 ?side4 ?side5 A4.out).mono ?_); (case side1 => exact uC ((Kd.C_below HR0_1.out HB.out))); (case side2 => exact HC0_1.out); (case side3 => exact FnB.of Try.func90 (by kernel_rfl) rfl (fun W_ hW_ => calls_of_args (args' := #[.pointer (some ⟨gb468, 0, none⟩)]) (by simp) ((impl_OrthogonalPolynomial_1.calls _ a1 _ W_ (blk_below (g := gb468) (o := .cells #[.int .i64 a1] 2 (0, 0)) (uB BK468.out) hW_) A3.out).mono fun e_ W2_ h_ => ⟨h_.1, h_.2.below⟩))); (case side4 => exact Kd.C_nil _ _); (case side5 => exact Nat.le_refl _); rintro e w33 ⟨rfl, hb⟩; refine ⟨_, rfl, ?_⟩; have n0_ := xB BK467 hb; have n1_ := xB BK468 hb; have n2_ := xH HB hb; clear BK467 BK468 HB; have BK467 := n0_; have BK468 := n1_; have HB := n2_; clear n0_ n1_ n2_; (try clear hb); (try clear hb2); (try clear hk); (try clear hi); have hcz34_0 : w33.cell? ⟨gb467, 0, none⟩ = some (.int .i64 a0_0) := (blk_cell BK467.out 0).trans rfl; have hcz34_1 : w33.cell? ⟨gb467, 1, none⟩ = some (.slice A0_1 l0_1.length c0_1) := (blk_cell BK467.out 1).trans rfl; have hfz34_0 := blk_frozen BK467.out 0; have hfz34_1 := blk_frozen BK467.out 1; have hcz35_0 : w33.cell? ⟨gb468, 0, none⟩ = some (.int .i64 a1) := (blk_cell BK468.out 0).trans rfl; have hfz35_0 := blk_frozen BK468.out 0) | ((with_reducible refine gate_callee (f := 88) rfl ?_); refine goesL_ (some 18) rfl rfl Try.func88 (by kernel_rfl) rfl #[.agg #[.int .i64 a0_0, .slice A0_1 l0_1.length c0_1], .int .i64 a1] rfl (by (try simp only [la, lb, lc]); first | done | rfl | (simp only [ld, le]; rfl)) ?_; (with_reducible refine (impl_Moments_upTo.callsR k a0_0 _ _ l0_1 a1 t471 t474 t477 t478 t481 false _ ?side1 ?side2 A6.out).mono ?_); (case side1 => exact uC ((Kd.C_below HR0_1.out HB.out))); (case side2 => exact HC0_1.out); rintro e w36 ⟨v472, v475, v479, v482, rfl, ho0, ho1, ho2, ho3, hb⟩; refine ⟨_, rfl, ?_⟩; have n0_ := zA (Kd.R_lower (Kd.R_mono (ok' := fun k_ => (w.heap.size ≤ k_) ∧ some k_ ≠ (v475 : Value).ownBlock ∧ some k_ ≠ (v479 : Value).ownBlock ∧ some k_ ≠ (v482 : Value).ownBlock ∧ k_ ≠ gb467 ∧ k_ ≠ gb468) ho0 (fun k_ hk_ => ⟨(Nat.le_trans (below_size (uH HB.out)) hk_.1), hk_.2.1, hk_.2.2.1, hk_.2.2.2, (Kd.freshB (g := gb467) (o := .cells #[.int .i64 a0_0, .slice A0_1 l0_1.length c0_1] 40 (0, 0)) (uB BK467.out) k_ hk_.1), (Kd.freshB (g := gb468) (o := .cells #[.int .i64 a1] 2 (0, 0)) (uB BK468.out) k_ hk_.1)⟩)) (below_size (uH HB.out))); have n1_ := zA (Kd.R_lower (Kd.R_newB (Kd.R_newM (M := fun k_ => (w.heap.size ≤ k_)) (Kd.R_mono (ok' := fun k_ => some k_ ≠ (v479 : Value).ownBlock ∧ some k_ ≠ (v482 : Value).ownBlock) ho1 (fun _ hk_ => hk_.2)) (below_size (uH HB.out)) (fun k_ h_ => h_)) (g := gb468) (o := .cells #[.int .i64 a1] 2 (0, 0)) (uB BK468.out)) (below_size (uH HB.out))); have n2_ := zA (Kd.R_lower (Kd.R_newB (Kd.R_newM (M := fun k_ => (w.heap.size ≤ k_)) (Kd.R_mono (ok' := fun k_ => some k_ ≠ (v475 : Value).ownBlock ∧ some k_ ≠ (v482 : Value).ownBlock) ho2 (fun _ hk_ => hk_.2)) (below_size (uH HB.out)) (fun k_ h_ => h_)) (g := gb468) (o := .cells #[.int .i64 a1] 2 (0, 0)) (uB BK468.out)) (below_size (uH HB.out))); have n3_ := zA (Kd.R_lower (Kd.R_newB (Kd.R_newM (M := fun k_ => (w.heap.size ≤ k_)) (Kd.R_mono (ok' := fun k_ => some k_ ≠ (v475 : Value).ownBlock ∧ some k_ ≠ (v479 : Value).ownBlock) ho3 (fun _ hk_ => hk_.2)) (below_size (uH HB.out)) (fun k_ h_ => h_)) (g := gb468) (o := .cells #[.int .i64 a1] 2 (0, 0)) (uB BK468.out)) (below_size (uH HB.out))); have n4_ := xB BK467 hb; have n5_ := xB BK468 hb; have n6_ := xH HB hb; clear BK467 BK468 HB; have HO473 := n0_; have HO476 := n1_; have HO480 := n2_; have HO483 := n3_; have BK467 := n4_; have BK468 := n5_; have HB := n6_; clear n0_ n1_ n2_ n3_ n4_ n5_ n6_; (try clear hb); (try clear hb2); (try clear hk); (try clear hi); (try clear ho0); (try clear ho1); (try clear ho2); (try clear ho3)) | ((with_reducible refine gate_dst (N := 7) rfl ?_); refine box_event ?hg (N := 7) ?hd (cs := #[.slice none 0 0, .slice none 0 0, .int .i64 0, .slice none 0 0, .slice none 0 0]) (t := 95) ?hr ?_; (case hd => rfl); (case hg => rfl); (case hr => first | (go_simp; done) | (go_simp; rfl)); intro gb485 hg w37 hbox hb; have n0_ := zA (Kd.R_below (Kd.R_elderB (uR HO473.out) gb485 (Nat.le_of_eq hg.symm)) hb); have n1_ := xR HO476 hb; have n2_ := xR HO480 hb; have n3_ := xR HO483 hb; have n4_ := xB BK467 hb; have n5_ := xB BK468 hb; have n6_ := xH HB hb; have n7_ := zA (hbox); have n8_ := zA ((by rw [hg]; exact (below_size (uH HB.out)) : w.heap.size ≤ gb485)); have n9_ := zA ((by rw [hg]; exact (below_size (uH HB.out)) : w.heap.size ≤ gb485)); have n10_ := zA ((by rw [hg]; exact neL BK467 : gb467 ≠ gb485)); have n11_ := zA ((by rw [hg]; exact neG BK467 : gb485 ≠ gb467)); have n12_ := zA ((by rw [hg]; exact neL BK468 : gb468 ≠ gb485)); have n13_ := zA ((by rw [hg]; exact neG BK468 : gb485 ≠ gb468)); clear HO473 HO476 HO480 HO483 BK467 BK468 HB; have HO473 := n0_; have HO476 := n1_; have HO480 := n2_; have HO483 := n3_; have BK467 := n4_; have BK468 := n5_; have HB := n6_; have BK485 := n7_; have GW485 := n8_; have GE485 := n9_; have := geI GE485; have NB467_485 := n10_; have NB485_467 := n11_; have NB468_485 := n12_; have NB485_468 := n13_; clear n0_ n1_ n2_ n3_ n4_ n5_ n6_ n7_ n8_ n9_ n10_ n11_ n12_ n13_ hb hbox hg; obtain ⟨Ao38, co38, eo38⟩ := Kd.R_slice HO473.out; subst eo38; have hnb39 := NB485_467.out; have hnc39 := NB467_485.out; have hnb40 := NB485_468.out; have hnc40 := NB468_485.out; have hcz41_0 : w37.cell? ⟨gb485, 0, none⟩ = some (.slice none 0 0) := (blk_cell BK485.out 0).trans rfl; have hcz41_1 : w37.cell? ⟨gb485, 1, none⟩ = some (.slice none 0 0) := (blk_cell BK485.out 1).trans rfl; have hcz41_2 : w37.cell? ⟨gb485, 2, none⟩ = some (.int .i64 0) := (blk_cell BK485.out 2).trans rfl; have hcz41_3 : w37.cell? ⟨gb485, 3, none⟩ = some (.slice none 0 0) := (blk_cell BK485.out 3).trans rfl; have hcz41_4 : w37.cell? ⟨gb485, 4, none⟩ = some (.slice none 0 0) := (blk_cell BK485.out 4).trans rfl; have hfz41_0 := blk_frozen BK485.out 0; have hfz41_1 := blk_frozen BK485.out 1; have hfz41_2 := blk_frozen BK485.out 2; have hfz41_3 := blk_frozen BK485.out 3; have hfz41_4 := blk_frozen BK485.out 4; obtain ⟨Ao42, co42, eo42⟩ := Kd.R_slice HO476.out; subst eo42; obtain ⟨Ao43, co43, eo43⟩ := Kd.R_slice HO480.out; subst eo43; obtain ⟨Ao44, co44, eo44⟩ := Kd.R_slice HO483.out; subst eo44))
   go_ret2
   exact ⟨_, by first | rfl | (simp [errW_none, errW_some] <;> rfl) | (simp [*, errW_none, errW_some] <;> rfl), Kd.R_nil _ _ _ _ _, uH HB.out⟩
 ·rw [if_neg c5] at H
  have c5b0 : (t470 == 0) = false := beq_eq_false_iff_ne.mpr c5
  have c5b1 : (t470 != 0) = true := bne_iff_ne.mpr c5
  simp only [Option.some.injEq, Prod.mk.injEq] at H
  obtain ⟨rfl, rfl⟩ := H
  go_enter Try.func39, Try.ntmps39
  go_wp2_with (first | ((with_reducible refine gate_dst (N := 2) rfl ?_); refine box_event ?hg (N := 2) ?hd (cs := #[.int .i64 a0_0, .slice A0_1 l0_1.length c0_1]) (t := 40) ?hr ?_; (case hd => rfl); (case hg => rfl); (case hr => first | (go_simp; done) | (go_simp; rfl)); intro gb467 hg w45 hbox hb; have n0_ := xH HB hb; have n1_ := zA (hbox); have n2_ := zA ((by rw [hg]; exact (below_size (uH HB.out)) : w.heap.size ≤ gb467)); have n3_ := zA ((by rw [hg]; exact (below_size (uH HB.out)) : w.heap.size ≤ gb467)); clear HB; have HB := n0_; have BK467 := n1_; have GW467 := n2_; have GE467 := n3_; have := geI GE467; clear n0_ n1_ n2_ n3_ hb hbox hg) | ((with_reducible refine gate_dst (N := 3) rfl ?_); refine box_event ?hg (N := 3) ?hd (cs := #[.int .i64 a1]) (t := 2) ?hr ?_; (case hd => rfl); (case hg => rfl); (case hr => first | (go_simp; done) | (go_simp; rfl)); intro gb468 hg w46 hbox hb; have n0_ := xB BK467 hb; have n1_ := xH HB hb; have n2_ := zA (hbox); have n3_ := zA ((by rw [hg]; exact (below_size (uH HB.out)) : w.heap.size ≤ gb468)); have n4_ := zA ((by rw [hg]; exact (below_size (uH HB.out)) : w.heap.size ≤ gb468)); have n5_ := zA ((by rw [hg]; exact neL BK467 : gb467 ≠ gb468)); have n6_ := zA ((by rw [hg]; exact neG BK467 : gb468 ≠ gb467)); clear BK467 HB; have BK467 := n0_; have HB := n1_; have BK468 := n2_; have GW468 := n3_; have GE468 := n4_; have := geI GE468; have NB467_468 := n5_; have NB468_467 := n6_; clear n0_ n1_ n2_ n3_ n4_ n5_ n6_ hb hbox hg; have hnb47 := NB467_468.out; have hnc47 := NB468_467.out; have hcz48_0 : w46.cell? ⟨gb467, 0, none⟩ = some (.int .i64 a0_0) := (blk_cell BK467.out 0).trans rfl; have hcz48_1 : w46.cell? ⟨gb467, 1, none⟩ = some (.slice A0_1 l0_1.length c0_1) := (blk_cell BK467.out 1).trans rfl; have hfz48_0 := blk_frozen BK467.out 0; have hfz48_1 := blk_frozen BK467.out 1) | ((with_reducible refine gate_callee (f := 68) rfl ?_); refine goesL_ (some 11) rfl rfl Try.func68 (by kernel_rfl) rfl #[.agg #[.int .i64 a0_0, .slice A0_1 l0_1.length c0_1], (.func (.func 90) #[] #[.pointer (some ⟨gb468, 0, none⟩)]), .slice none 0 0] rfl (by (try simp only [la, lb, lc]); first | done | rfl | (simp only [ld, le]; rfl)) ?_; (refine (impl_momentsCode.calls k a0_0 _ _ l0_1 _ t469 _ _ ([] : List (List Int)) t470 _ ?side1 ?side2 ?side3 ?side4 ?side5 A4.out).mono ?_); (case side1 => exact uC ((Kd.C_below HR0_1.out HB.out))); (case side2 => exact HC0_1.out); (case side3 => exact FnB.of Try.func90 (by kernel_rfl) rfl (fun W_ hW_ => calls_of_args (args' := #[.pointer (some ⟨gb468, 0, none⟩)]) (by simp) ((impl_OrthogonalPolynomial_1.calls _ a1 _ W_ (blk_below (g := gb468) (o := .cells #[.int .i64 a1] 2 (0, 0)) (uB BK468.out) hW_) A3.out).mono fun e_ W2_ h_ => ⟨h_.1, h_.2.below⟩))); (case side4 => exact Kd.C_nil _ _); (case side5 => exact Nat.le_refl _); rintro e w49 ⟨rfl, hb⟩; refine ⟨_, rfl, ?_⟩; have n0_ := xB BK467 hb; have n1_ := xB BK468 hb; have n2_ := xH HB hb; clear BK467 BK468 HB; have BK467 := n0_; have BK468 := n1_; have HB := n2_; clear n0_ n1_ n2_; (try clear hb); (try clear hb2); (try clear hk); (try clear hi)))
  go_ret2
  exact ⟨_, by first | rfl | (simp [errW_none, errW_some] <;> rfl) | (simp [*, errW_none, errW_some] <;> rfl), Kd.R_nil _ _ _ _ _, uH HB.out⟩
/- The orthogonal polynomials of moments: the program's upTo and the reference's l04Polys come to them; no condition. -/
def mPolys (p : Int) (l : List Int) (i : Nat) : List (List Int) := (List.range (i + 1)).map (mP p l)
def mNorms (p : Int) (l : List Int) (i : Nat) : List Int := (List.range i).map fun j => mNorm p l (mP p l j) 0
def mAl (p : Int) (l : List Int) (i : Nat) : List Int := (List.range i).map fun j => mAlpha p l (mP p l j)
def mBe (p : Int) (l : List Int) (i : Nat) : List Int := (List.range i).map fun j => mBeta p l (mPair p l j).1 (mP p l j) j
theorem mPolys_len (p : Int) (l : List Int) (i : Nat) : (mPolys p l i).length = i + 1 := by simp [mPolys]
theorem mPolys_get (p : Int) (l : List Int) {i j : Nat} (h : j ≤ i) : (mPolys p l i).getD j [] = mP p l j := by
  rw [mPolys, List.getD_eq_getElem?_getD, List.getElem?_map, List.getElem?_range (by omega)]; rfl
theorem mNorms_get (p : Int) (l : List Int) {i j : Nat} (h : j < i) : (mNorms p l i).getD j 0 = mNorm p l (mP p l j) 0 := by
  rw [mNorms, List.getD_eq_getElem?_getD, List.getElem?_map, List.getElem?_range h]; rfl
theorem mPolys_succ (p : Int) (l : List Int) (i : Nat) : mPolys p l (i + 1) = mPolys p l i ++ [mP p l (i + 1)] := by unfold mPolys; rw [List.range_succ, List.map_append, List.map_singleton]
theorem mNorms_succ (p : Int) (l : List Int) (i : Nat) : mNorms p l (i + 1) = mNorms p l i ++ [mNorm p l (mP p l i) 0] := by unfold mNorms; rw [List.range_succ, List.map_append, List.map_singleton]
theorem mAl_succ (p : Int) (l : List Int) (i : Nat) : mAl p l (i + 1) = mAl p l i ++ [mAlpha p l (mP p l i)] := by unfold mAl; rw [List.range_succ, List.map_append, List.map_singleton]
theorem mBe_succ (p : Int) (l : List Int) (i : Nat) : mBe p l (i + 1) = mBe p l i ++ [mBeta p l (mPair p l i).1 (mP p l i) i] := by unfold mBe; rw [List.range_succ, List.map_append, List.map_singleton]
theorem mP_zero {p : Int} (hp : Pm p) (l : List Int) : mP p l 1 = pmul p (mP p l 0) [(-(mAlpha p l (mP p l 0))) % p, 1] := by
  show pnext p (mAlpha p l [1]) (mBeta p l [] [1] 0) [1] [] = _
  unfold pnext
  rw [padd_nil _ _ (pmul_trim p _ _), pmul_comm hp.pos]
  rfl
theorem mP_succ {p : Int} (hp : Pm p) (l : List Int) (i : Nat) : mP p l (i + 2) = padd p (pmul p (mP p l (i + 1)) [(-(mAlpha p l (mP p l (i + 1)))) % p, 1]) (mP p l i) ((-(mNorm p l (mP p l (i + 1)) 0) * invF p (mNorm p l (mP p l i) 0)) % p) := by
  show pnext p (mAlpha p l (mP p l (i + 1))) (mBeta p l (mP p l i) (mP p l (i + 1)) (i + 1)) (mP p l (i + 1)) (mP p l i) = _
  unfold pnext mBeta
  rw [if_neg (by omega), neg_emod_emod, pmul_comm hp.pos, Int.neg_mul]
theorem xx_nm {p : Int} (hp : Pm p) : Nm p [0, 1] := by
  have := hp.two
  exact Nm.cons (Int.le_refl _) hp.pos (Nm.cons (by omega) (by omega) (Nm.nil p))
section
variable {p : Int} (hp : Pm p) {l : List Int} (nl : Nm p l) (hl : l.length ≤ 24)
include hp nl hl
theorem specNorm_ev {f : List Int} (hf : Nm p f) (s : Nat) (h : 2 * f.length + s ≤ l.length + 1) : Ev (fun n => spec_l04Norm.f n p l f (s : Int)) (mNorm p l f s) := by
  unfold spec_l04Norm.f mNorm
  have h2 := pmul_len p f f
  refine Ev.bind (specMul_ev hp f f hf hf (by unfold Sm; omega) (by unfold Sm; omega) (by unfold Sm; omega)) (Ev.bind (specApply_ev hp l _ nl (pmul_nm hp.pos _ _) s ?_ (by unfold Sm; omega) (by unfold Sm; omega)) (Ev.now _))
  by_cases h0 : f = []
  · right; rw [h0]; rfl
  · left
    have : f.length ≠ 0 := fun e => h0 (List.length_eq_zero_iff.1 e)
    omega
theorem specPolys_l0 {k : Nat} (hk : 2 * k ≤ l.length) (d : Nat) : ∀ (i : Nat) (last : Int), i + d = k → (0 < i → last = mNorm p l (mP p l (i - 1)) 0) →
    Ev (fun n => spec_l04Polys.l0 n (k : Int) (mPolys p l i) p last (i : Int) p l) (mPolys p l k) := by
  induction d with
  | zero =>
    intro i last hi _
    obtain rfl : i = k := by omega
    refine Ev.step (fun n => by rw [spec_l04Polys.l0]) ?_
    exact Ev.neg (by omega) (Ev.now _)
  | succ d ih =>
    intro i last hi hlast
    have ho := mP_nm hp l i
    have hol := mP_len hp l i
    have hn0 := mNorm_in hp l (mP p l i) 0
    have hn1 := mNorm_in hp l (mP p l i) 1
    have hiv := invF_in hp (mNorm p l (mP p l i) 0)
    have hm := mulP hp hn1.1 hn1.2 hiv.1 hiv.2
    have ha := mAlpha_in hp l (mP p l i)
    have ht := hp.top
    have e1 : wrap64 (-(Int.tmod (wrap64 (mNorm p l (mP p l i) 1 * invF p (mNorm p l (mP p l i) 0))) p)) = -(mAlpha p l (mP p l i)) := by
      rw [wrap_id (x := mNorm p l (mP p l i) 1 * invF p (mNorm p l (mP p l i) 0)) (by omega) (by omega), tmod_pos hm.1]
      show wrap64 (-(mAlpha p l (mP p l i))) = _
      rw [wrap_id (by omega) (by omega)]
    refine Ev.step (fun n => by rw [spec_l04Polys.l0]) ?_
    rw [rdL_nat, mPolys_get p l (Nat.le_refl i), mPolys_len, wsucc (i := i) (n := 1000) (by omega) (by omega)]
    refine Ev.pos (by omega) (Ev.pos (by omega) (Ev.pos (by omega) (Ev.bind (specNorm_ev hp nl hl ho 0 (by omega)) (Ev.bind (specInv_ev hp hn0) (Ev.bind (specNorm_ev hp nl hl ho 1 (by omega)) (Ev.neg hp.ne ?_))))))
    rw [e1]
    have tr : trim [(-(mAlpha p l (mP p l i))) % p, 1] = [(-(mAlpha p l (mP p l i))) % p, 1] := trim_snoc [(-(mAlpha p l (mP p l i))) % p] (by omega)
    refine Ev.bindE (smod_eq hp _) (Ev.bind (specTrim_ev _ (by simp [Sm])) ?_)
    rw [tr]
    refine Ev.bind (specMul_ev hp _ _ ho (two_nm hp _) (by unfold Sm; omega) (by simp [Sm]) (by simp only [List.length_cons, List.length_nil]; unfold Sm; omega)) ?_
    rcases i with _ | i
    · refine Ev.neg (by omega) (Ev.pos (by omega) ?_)
      rw [← mP_zero hp, ← mPolys_succ]
      exact ih 1 _ (by omega) (fun _ => rfl)
    · have hb := mP_nm hp l i
      have hbl := mP_len hp l i
      have hlast := hlast (by omega)
      rw [Nat.add_sub_cancel] at hlast
      have hnb := mNorm_in hp l (mP p l i) 0
      have hivb := invF_in hp (mNorm p l (mP p l i) 0)
      have hm2 := mulP hp hn0.1 hn0.2 hivb.1 hivb.2
      have e2 : wrap64 (wrap64 (-(mNorm p l (mP p l (i + 1)) 0)) * invF p (mNorm p l (mP p l i) 0)) = -(mNorm p l (mP p l (i + 1)) 0) * invF p (mNorm p l (mP p l i) 0) := by
        rw [wrap_id (x := -(mNorm p l (mP p l (i + 1)) 0)) (by omega) (by omega), Int.neg_mul, wrap_id (by omega) (by omega)]
      have hpl := pmul_len p (mP p l (i + 1)) [(-(mAlpha p l (mP p l (i + 1)))) % p, 1]
      simp only [List.length_cons, List.length_nil] at hpl
      rw [wpred (i := i + 1) (by omega) (by omega), Nat.add_sub_cancel, rdL_nat, mPolys_get p l (by omega), hlast]
      refine Ev.pos (by omega) (Ev.pos (by omega) (Ev.pos (by omega) (Ev.bind (specInv_ev hp hnb) ?_)))
      rw [e2]
      refine Ev.bindE (smod_eq hp _) (Ev.bind (specAdd_ev hp (emodB hp.pos _) _ _ (pmul_nm hp.pos _ _) hb (by unfold Sm; omega) (by unfold Sm; omega)) (Ev.pos (by omega) ?_))
      rw [← mP_succ hp, ← mPolys_succ]
      exact ih (i + 2) _ (by omega) (fun _ => rfl)
theorem specPolys_ev {k : Nat} (hk : 2 * k ≤ l.length) : Ev (fun n => spec_l04Polys.f n p l (k : Int)) (mPolys p l k) := specPolys_l0 hp nl hl hk k 0 1 (by omega) (fun h => absurd h (by omega))
theorem implNormP_ev {f : List Int} (h : 2 * f.length ≤ l.length + 1) : Ev (fun n => impl_Moments_apply.f n p l (pmul p f f)) (mNorm p l f 0) := by
  have h2 := pmul_len p f f
  refine implApply_ev hp l _ nl (pmul_nm hp.pos _ _) ?_ (by unfold Sm; omega)
  omega
theorem implOneP_ev {f : List Int} (h : 2 * f.length + 1 ≤ l.length + 1) : Ev (fun n => impl_Moments_apply.f n p l (pmul p [0, 1] (pmul p f f))) (mNorm p l f 1) := by
  have h2 := pmul_len p f f
  have h3 := pmul_len p [0, 1] (pmul p f f)
  simp only [List.length_cons, List.length_nil] at h3
  have e : mNorm p l f 1 = applyM p l (pmul p [0, 1] (pmul p f f)) 0 := by rw [applyM_x hp l _ (pmul_nm hp.pos _ _)]; rfl
  rw [e]
  refine implApply_ev hp l _ nl (pmul_nm hp.pos _ _) ?_ (by unfold Sm; omega)
  by_cases h0 : (pmul p f f).length = 0
  · have h4 : pmul p [0, 1] (pmul p f f) = [] := by
      have : pmul p f f = [] := List.length_eq_zero_iff.1 h0
      rw [this]
      simp [pmul]
    rw [h4]; exact Nat.zero_le _
  · omega
theorem implUpTo_l0 (h1 : 1 ≤ l.length) {k : Nat} (hk : 2 * k ≤ l.length) (d : Nat) : ∀ i : Nat, i + d = k →
    Ev (fun n => impl_Moments_upTo.l0 n p (mPair p l i).1 (k : Int) (i : Int) p l (mPolys p l i) (mNorms p l i) p (mAl p l i) (mBe p l i)) (mPolys p l k, mNorms p l k, p, mAl p l k, mBe p l k, true) := by
  induction d with
  | zero =>
    intro i hi
    obtain rfl : i = k := by omega
    refine Ev.step (fun n => by rw [impl_Moments_upTo.l0]) ?_
    exact Ev.neg (by omega) (Ev.now _)
  | succ d ih =>
    intro i hi
    have ho := mP_nm hp l i
    have hol := mP_len hp l i
    have hok := mPair_ok hp l i
    have hn0 := mNorm_in hp l (mP p l i) 0
    have hn1 := mNorm_in hp l (mP p l i) 1
    have h2 := pmul_len p (mP p l i) (mP p l i)
    have lN : (mNorms p l i).length = i := by simp [mNorms]
    have lA : (mAl p l i).length = i := by simp [mAl]
    have lB : (mBe p l i).length = i := by simp [mBe]
    refine Ev.step (fun n => by rw [impl_Moments_upTo.l0]) ?_
    rw [rdL_nat, mPolys_get p l (Nat.le_refl i), mPolys_len, wsucc (i := i) (n := 1000) (by omega) (by omega), lN, lA, lB]
    have hb : Ev (fun n => if (i : Int) > 0 then (if 0 ≤ wrap64 ((i : Int) - 1) then (if wrap64 ((i : Int) - 1) < (i : Int) then (impl_field_div.f n p (mNorm p l (mP p l i) 0) (rd (mNorms p l i) (wrap64 ((i : Int) - 1)))) else none) else none) else (some (rd l 0))) (mBeta p l (mPair p l i).1 (mP p l i) i) := by
      rcases i with _ | i
      · exact Ev.neg (by omega) (Ev.now _)
      · have hnb := mNorm_in hp l (mP p l i) 0
        rw [wpred (i := i + 1) (by omega) (by omega), Nat.add_sub_cancel, rd_nat, mNorms_get p l (by omega)]
        exact Ev.pos (by omega) (Ev.pos (by omega) (Ev.pos (by omega) (implDiv_ev hp hn0 hnb)))
    refine Ev.pos (by omega) (Ev.pos (by omega) (Ev.pos (by omega) (Ev.bind (implMul_ev hp _ _ ho ho (by unfold Sm; omega) (by unfold Sm; omega) (by unfold Sm; omega)) (Ev.bind (implNormP_ev hp nl hl (by omega)) (Ev.bind (implMul_ev hp [0, 1] _ (xx_nm hp) (pmul_nm hp.pos _ _) (by simp [Sm]) (by unfold Sm; omega) (by simp only [List.length_cons, List.length_nil]; unfold Sm; omega)) (Ev.bind (implOneP_ev hp nl hl (by omega)) (Ev.bind (implDiv_ev hp hn1 hn0) (Ev.pos (by omega) (Ev.bind hb ?_)))))))))
    refine Ev.bind (implNext_ev hp (mAlpha_in hp l _) (mBeta_in hp nl _ _ _) _ _ ho hok.1.1 (by omega) (by omega)) ?_
    refine Ev.bindE rfl (Ev.pos (by simp only [List.length_cons, List.length_nil]; omega) (Ev.bindE rfl (Ev.pos (by simp only [List.length_cons, List.length_nil]; omega) (Ev.bindE rfl (Ev.pos (by simp only [List.length_cons, List.length_nil]; omega) (Ev.bindE rfl (Ev.pos (by simp only [List.length_cons, List.length_nil]; omega) ?_)))))))
    have := ih (i + 1) (by omega)
    rw [mPolys_succ, mNorms_succ, mAl_succ, mBe_succ] at this
    exact this
end
/- Orders, ranges and errors of moments: the program's upTo and the reference's l04Code; no condition. -/
theorem order12 (a b : Int) : impl_isOrder.f a b = some (decide (b ≤ a ∧ a ≤ 12)) := by
  unfold impl_isOrder.f
  rw [within_eq]; rfl
section
variable {p : Int} (hp : Pm p) {l : List Int} (nl : Nm p l) (hl : l.length ≤ 24)
include hp nl hl
theorem implUpTo_ev (h1 : 1 ≤ l.length) (k : Nat) (hk : k ≤ 12) :
    Ev (fun n => impl_Moments_upTo.f n p l (k : Int)) (if (k : Int) ≤ ordV p l ∧ 2 * k ≤ l.length then (mPolys p l k, mNorms p l k, p, mAl p l k, mBe p l k, true) else ([[1]], [], p, [], [], false)) := by
  unfold impl_Moments_upTo.f
  refine Ev.bindE (a := [[1]]) rfl (Ev.bind (implOrd_ev hp nl hl) ?_)
  by_cases c1 : ordV p l < (k : Int)
  · rw [if_neg (by omega)]
    refine Ev.pos c1 (Ev.step (fun n => by rw [impl_Moments_upTo.j0]) ?_)
    exact Ev.pos rfl (Ev.now _)
  · refine Ev.neg c1 (Ev.bindE (a := (l.length : Int)) rfl (Ev.step (fun n => by rw [impl_Moments_upTo.j0]) ?_))
    have e : wrap64 (2 * (k : Int)) = 2 * (k : Int) := wrap_id (by omega) (by omega)
    rw [e]
    by_cases c2 : 2 * k ≤ l.length
    · rw [if_pos ⟨by omega, c2⟩, decide_eq_false (by omega)]
      exact Ev.neg (by decide) (Ev.bindE (a := p) rfl (implUpTo_l0 hp nl hl h1 c2 k 0 (by omega)))
    · rw [if_neg (fun g => c2 g.2), decide_eq_true (by omega)]
      exact Ev.pos rfl (Ev.now _)
theorem specReg_ev (k : Nat) (hk : k ≤ 12) : Ev (fun n => spec_l04Regular.f n p l (k : Int)) (decide ((k : Int) ≤ ordV p l ∧ 2 * k ≤ l.length)) := by
  unfold spec_l04Regular.f
  have e : wrap64 (2 * (k : Int)) = 2 * (k : Int) := wrap_id (by omega) (by omega)
  rw [e]
  by_cases c2 : 2 * k ≤ l.length
  · refine Ev.pos (by omega) (Ev.bind (specOrd_ev hp nl hl) (Ev.some' ?_))
    by_cases c1 : (k : Int) ≤ ordV p l
    · rw [decide_eq_true (show ordV p l ≥ (k : Int) from c1), decide_eq_true ⟨c1, c2⟩]
    · rw [decide_eq_false (show ¬ ordV p l ≥ (k : Int) from c1), decide_eq_false (fun g => c1 g.1)]
  · refine Ev.neg (by omega) (Ev.some' ?_)
    rw [decide_eq_false (fun g => c2 g.2)]
end
theorem specCode04_ev (p : Int) (l : List Int) (hl : Sm l.length) (a : Int) (low : Nat) :
    Ev (fun n => spec_l04Code.f n p l a (low : Int)) (if momB p l = true then (if (low : Int) ≤ a ∧ a ≤ 12 then (if a ≤ ordV p l ∧ 2 * a ≤ (l.length : Int) then 0 else 5) else 2) else 1) := by
  unfold spec_l04Code.f
  refine Ev.bind (specAre_ev p l hl) ?_
  by_cases h : momB p l = true
  · rw [if_pos h]
    refine Ev.pos h (Ev.bindE (in_eq _ _ _) ?_)
    by_cases ha : (low : Int) ≤ a ∧ a ≤ 12
    · rw [if_pos ha]
      refine Ev.pos (decide_eq_true ha) ?_
      obtain ⟨k, rfl⟩ := Int.eq_ofNat_of_zero_le (show 0 ≤ a by omega)
      refine Ev.bind (specReg_ev (momB.pm h) (momB.nm h) (momB.len h).2 k (by omega)) ?_
      by_cases c : (k : Int) ≤ ordV p l ∧ 2 * (k : Int) ≤ (l.length : Int)
      · rw [if_pos c]
        exact Ev.pos (decide_eq_true ⟨c.1, by omega⟩) (Ev.now _)
      · rw [if_neg c]
        exact Ev.neg (by rw [decide_eq_true_eq]; exact fun g => c ⟨g.1, by omega⟩) (Ev.now _)
    · rw [if_neg ha]
      exact Ev.neg (by simpa using ha) (Ev.now _)
  · rw [if_neg h]
    exact Ev.neg h (Ev.now _)
/-- The order is a number, at most half of how many moments there are. -/
theorem ordGo_nat (p : Int) (l : List Int) (d : Nat) : ∀ i : Nat, ∃ m : Nat, ordGo p l d i = (m : Int) ∧ m ≤ i + d := by
  induction d with
  | zero => intro i; exact ⟨i, rfl, Nat.le_refl _⟩
  | succ d ih =>
    intro i
    rw [ordGo]
    by_cases h : hankV p l (i + 1) = 0
    · exact ⟨i, if_pos h, by omega⟩
    · obtain ⟨m, h1, h2⟩ := ih (i + 1)
      exact ⟨m, by rw [if_neg h, h1], by omega⟩
theorem ordV_nat (p : Int) (l : List Int) : ∃ m : Nat, ordV p l = (m : Int) ∧ 2 * m ≤ l.length + 1 := by
  obtain ⟨m, h1, h2⟩ := ordGo_nat p l ((l.length + 1) / 2) 0
  exact ⟨m, h1, by omega⟩
/- OrthogonalPolynomial: for all arguments the program and the reference come to one value; no condition. -/
theorem OrthogonalPolynomial_both (p : Int) (l : List Int) (a : Int) (hl : Sm l.length) : ∃ v : List Int × Int, Ev (fun k => spec_OrthogonalPolynomial.f k p l a) v ∧ Ev (fun k => impl_OrthogonalPolynomial.f k p l a) v ∧ Sm v.1.length := by
  have hc := momentsCode_ev p l hl (decide (0 ≤ a ∧ a ≤ 12)) [] (by simp [Sm]) (fun l h => by cases h)
  have hs := specCode04_ev p l hl a 0
  have h1 : impl_OrthogonalPolynomial_1.f a = some (decide (0 ≤ a ∧ a ≤ 12)) := by
    unfold impl_OrthogonalPolynomial_1.f
    rw [order12]; rfl
  have bad : ∀ c : Int, c ≠ 0 → Ev (fun k => spec_l04Code.f k p l a ((0 : Nat) : Int)) c → Ev (fun k => spec_OrthogonalPolynomial.f k p l a) ([], c) := fun c hc0 hcode => by
    unfold spec_OrthogonalPolynomial.f
    exact Ev.bind hcode (Ev.neg hc0 (Ev.now _))
  by_cases h : momB p l = true
  · rw [h] at hc
    rw [if_pos h] at hs
    by_cases ha : 0 ≤ a ∧ a ≤ 12
    · rw [decide_eq_true ha] at hc h1
      rw [if_pos (by exact ha)] at hs
      have hp := momB.pm h
      have nl := momB.nm h
      have hlen := momB.len h
      obtain ⟨k, rfl⟩ := Int.eq_ofNat_of_zero_le ha.1
      have hu := implUpTo_ev hp nl hlen.2 hlen.1 k (by omega)
      by_cases c : (k : Int) ≤ ordV p l ∧ 2 * k ≤ l.length
      · rw [if_pos c] at hu
        rw [if_pos ⟨c.1, by omega⟩] at hs
        refine ⟨(mP p l k, 0), ?_, ?_, by have := mP_len hp l k; unfold Sm; dsimp only; omega⟩
        · unfold spec_OrthogonalPolynomial.f
          refine Ev.bind hs (Ev.pos rfl (Ev.bind (specPolys_ev hp nl hlen.2 c.2) ?_))
          rw [mPolys_len, rdL_nat, mPolys_get p l (Nat.le_refl k)]
          exact Ev.pos (by omega) (Ev.pos (by omega) (Ev.now _))
        · unfold impl_OrthogonalPolynomial.f
          refine Ev.bindE h1 (Ev.bind hc (Ev.pos rfl (Ev.bind hu (Ev.pos rfl ?_))))
          simp only [mPolys_len]
          rw [rdL_nat, mPolys_get p l (Nat.le_refl k)]
          exact Ev.pos (by omega) (Ev.pos (by omega) (Ev.now _))
      · rw [if_neg c] at hu
        rw [if_neg (fun g => c ⟨g.1, by omega⟩)] at hs
        refine ⟨([], 5), bad 5 (by decide) hs, ?_, by simp [Sm]⟩
        unfold impl_OrthogonalPolynomial.f
        exact Ev.bindE h1 (Ev.bind hc (Ev.pos rfl (Ev.bind hu (Ev.neg (by simp) (Ev.now _)))))
    · rw [decide_eq_false ha] at hc h1
      rw [if_neg (by exact ha)] at hs
      refine ⟨([], 2), bad 2 (by decide) hs, ?_, by simp [Sm]⟩
      unfold impl_OrthogonalPolynomial.f
      exact Ev.bindE h1 (Ev.bind hc (Ev.neg (by simp) (Ev.now _)))
  · rw [Bool.eq_false_iff.2 h] at hc
    rw [if_neg h] at hs
    refine ⟨([], 1), bad 1 (by decide) hs, ?_, by simp [Sm]⟩
    unfold impl_OrthogonalPolynomial.f
    exact Ev.bindE h1 (Ev.bind hc (Ev.neg (by simp) (Ev.now _)))
end Go.Proofs.Ytfbnkebgdmfcfaa.Pr
