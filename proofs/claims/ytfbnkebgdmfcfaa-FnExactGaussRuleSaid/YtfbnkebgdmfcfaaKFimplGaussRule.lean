/- Printed by a program of this session out of the translation: what these functions of the program compute, under the conditions that each theorem names. -/
import Derived.Test.YtfbnkebgdmfcfaaKGaussRule1
import Derived.Test.YtfbnkebgdmfcfaaKGaussRule8
import Derived.Test.YtfbnkebgdmfcfaaKGaussRule7
import Derived.Test.YtfbnkebgdmfcfaaKGaussRule9
namespace Go.Proofs.Ytfbnkebgdmfcfaa.Pr
open Go.RowKit Go.Proofs.YtfbnkebgdmfcfaaW.PrintWords Go.Proofs.YtfbnkebgdmfcfaaW.PrintLast Go.Proofs.YtfbnkebgdmfcfaaW.PrintMore
attribute [local go_sem] max2_int min2_int max_two min_two max_three min_three max_four min_four   -- for this text's walks alone
set_option linter.unusedVariables false
set_option linter.unusedSimpArgs false

/-! ### impl_GaussRule: function 35 -/
def prj (v : Value) (i : Nat) : Value := match v with | .tuple a => a.getD i undef | _ => undef
def impl_GaussRule.l0 : Nat → List Int → Int → Int → Int → List Int → List Int → Int → List Int → List Int → Option (Int × List Int × List Int × Int)
 | 0, _, _, _, _, _, _, _, _, _ => none
 | k + 1, x34, x35, x36, x1609000, x1609001, x1609002, x1620000, x1620001, x1620002 => if x36 < x35 then (if 0 ≤ x36 then (if x36 < (x34.length : Int) then ((impl_Jacobi_christoffel.f k x1609000 x1609001 x1609002 (rd x34 x36)).bind fun t1623 => (if x1620002.length < 17592186044416 then (impl_GaussRule.l0 k x34 x35 (wrap64 (x36 + 1)) x1609000 x1609001 x1609002 x1620000 x1620001 (x1620002 ++ [t1623])) else (none))) else (none)) else (none)) else (some (x1620000, x1620001, x1620002, 0))
def impl_GaussRule.f (k : Nat) (a0_0 : Int) (l0_1 : List Int) (l0_2 : List Int) : Option (Int × List Int × List Int × Int) := (impl_jacobiCode.f k a0_0 l0_1 l0_2 true).bind fun t1610 => (if t1610 = 0 then ((impl_Jacobi_field.f a0_0 l0_1 l0_2).bind fun t1611 => ((impl_Jacobi_polys.f k a0_0 l0_1 l0_2).bind fun T1612 => ((impl_Jacobi_size.f a0_0 l0_1 l0_2).bind fun t1615 => (if 0 ≤ t1615 then (if t1615 < (T1612.length : Int) then ((impl_field_roots.f k t1611 (rd_L1 T1612 t1615)).bind fun t1616 => ((impl_length_int64.f t1616).bind fun t1620 => ((impl_Jacobi_size.f a0_0 l0_1 l0_2).bind fun t1621 => (if t1620 = t1621 then (impl_GaussRule.l0 k t1616 (t1616.length : Int) 0 a0_0 l0_1 l0_2 a0_0 t1616 ([] : List Int)) else (some (0, ([] : List Int), ([] : List Int), 4)))))) else (none)) else (none))))) else (some (0, ([] : List Int), ([] : List Int), t1610)))
def impl_GaussRule.T4 : Bool × List (List Nat × List Nat) := (true, [([], []), ([0], [0]), ([], []), ([2], [2]), ([], []), ([4, 3], [4]), ([], []), ([6, 5], [6]), ([5, 7], [5, 7]), ([8], [8]), ([3, 9, 7], [3, 9]), ([1, 10], [1, 10]), ([], []), ([12, 11, 10, 0, 1, 2, 3, 4, 5, 6, 7, 8, 9, 10, 11, 12], [11, 12])])
def impl_GaussRule.B4 : List Nat := [0, 1, 0, 4, 0, 28, 0, 124, 252, 508, 1020, 2047, 0, 8191]
theorem impl_GaussRule.tab4 : rtab .any (opsOf Try.f35 4) = impl_GaussRule.T4 := by kernel_rfl
theorem impl_GaussRule.bits4 : waitsOk impl_GaussRule.T4.2 impl_GaussRule.B4 = true := by kernel_rfl
def impl_GaussRule.T10 : Bool × List (List Nat × List Nat) := (true, [([], []), ([0], [0]), ([], []), ([], []), ([2, 3], [2, 3]), ([4], [4]), ([1, 5, 4], [1, 5]), ([0, 1, 2, 3, 4, 5, 6], []), ([7, 6, 6, 0, 1, 2, 3, 4, 5, 6], [6, 7])])
def impl_GaussRule.B10 : List Nat := [0, 1, 0, 0, 12, 28, 63, 127, 255]
theorem impl_GaussRule.tab10 : rtab .any (opsOf Try.f35 10) = impl_GaussRule.T10 := by kernel_rfl
theorem impl_GaussRule.bits10 : waitsOk impl_GaussRule.T10.2 impl_GaussRule.B10 = true := by kernel_rfl
set_option maxHeartbeats 8000000 in
set_option maxRecDepth 100000 in
theorem impl_GaussRule.calls (k : Nat) (a0_0 : Int) (A0_1 : Option Addr) (c0_1 : Nat) (l0_1 : List Int) (A0_2 : Option Addr) (c0_2 : Nat) (l0_2 : List Int) (r1 : Int) (r2 : List Int) (r3 : List Int) (r4 : Int) (w : World) (hr0_1 : Kd.C (Kd.int .i64) w A0_1 l0_1.length l0_1) (hc0_1 : l0_1.length ≤ c0_1) (hr0_2 : Kd.C (Kd.int .i64) w A0_2 l0_2.length l0_2) (hc0_2 : l0_2.length ≤ c0_2) (h : impl_GaussRule.f k a0_0 l0_1 l0_2 = some (r1, r2, r3, r4)) :
  Calls Try.prog 35 #[.agg #[.int .i64 a0_0, .slice A0_1 l0_1.length c0_1, .slice A0_2 l0_2.length c0_2]] w fun e w' => ∃ v1_ v2_ : Value, e = .returned (.tuple #[.agg #[.int .i64 r1, v1_, v2_], .int .i64 r4]) ∧ Kd.R (Kd.int .i64) 2 w' w.heap.size (fun k_ => some k_ ≠ (v2_ : Value).ownBlock) v1_ r2 ∧ Kd.R (Kd.int .i64) 2 w' w.heap.size (fun k_ => some k_ ≠ (v1_ : Value).ownBlock) v2_ r3 ∧ Below w.heap.size w w' := by
 have hu26 := Try.underlying26
 have hu37 := Try.underlying37
 have HR0_1 := zA hr0_1
 have HC0_1 := zA hc0_1
 clear hr0_1 hc0_1
 have HR0_2 := zA hr0_2
 have HC0_2 := zA hc0_2
 clear hr0_2 hc0_2
 have HB := zA (Below.refl w.heap.size w)
 have H : ((impl_jacobiCode.f k a0_0 l0_1 l0_2 true).bind fun t1610 => (if t1610 = 0 then ((impl_Jacobi_field.f a0_0 l0_1 l0_2).bind fun t1611 => ((impl_Jacobi_polys.f k a0_0 l0_1 l0_2).bind fun T1612 => ((impl_Jacobi_size.f a0_0 l0_1 l0_2).bind fun t1615 => (if 0 ≤ t1615 then (if t1615 < (T1612.length : Int) then ((impl_field_roots.f k t1611 (rd_L1 T1612 t1615)).bind fun t1616 => ((impl_length_int64.f t1616).bind fun t1620 => ((impl_Jacobi_size.f a0_0 l0_1 l0_2).bind fun t1621 => (if t1620 = t1621 then (impl_GaussRule.l0 k t1616 (t1616.length : Int) 0 a0_0 l0_1 l0_2 a0_0 t1616 ([] : List Int)) else (some (0, ([] : List Int), ([] : List Int), 4)))))) else (none)) else (none))))) else (some (0, ([] : List Int), ([] : List Int), t1610)))) = some (r1, r2, r3, r4) := h
 clear h
 replace H := Option.bind_eq_some_iff.mp H
 obtain ⟨t1610, A20, H⟩ := H
 replace H : (if t1610 = 0 then ((impl_Jacobi_field.f a0_0 l0_1 l0_2).bind fun t1611 => ((impl_Jacobi_polys.f k a0_0 l0_1 l0_2).bind fun T1612 => ((impl_Jacobi_size.f a0_0 l0_1 l0_2).bind fun t1615 => (if 0 ≤ t1615 then (if t1615 < (T1612.length : Int) then ((impl_field_roots.f k t1611 (rd_L1 T1612 t1615)).bind fun t1616 => ((impl_length_int64.f t1616).bind fun t1620 => ((impl_Jacobi_size.f a0_0 l0_1 l0_2).bind fun t1621 => (if t1620 = t1621 then (impl_GaussRule.l0 k t1616 (t1616.length : Int) 0 a0_0 l0_1 l0_2 a0_0 t1616 ([] : List Int)) else (some (0, ([] : List Int), ([] : List Int), 4)))))) else (none)) else (none))))) else (some (0, ([] : List Int), ([] : List Int), t1610))) = some (r1, r2, r3, r4) := H
 have A2 := zA A20
 clear A20
 by_cases c3 : t1610 = 0
 rotate_left
 ·rw [if_neg c3] at H
  have c3b0 : (t1610 == 0) = false := beq_eq_false_iff_ne.mpr c3
  have c3b1 : (t1610 != 0) = true := bne_iff_ne.mpr c3
  simp only [Option.some.injEq, Prod.mk.injEq] at H
  obtain ⟨rfl, rfl, rfl, rfl⟩ := H
  go_enter Try.func35, Try.ntmps35
  go_wp2_with (first | ((with_reducible refine gate_dst (N := 1) rfl ?_); refine bx 1 #[.int .i64 a0_0, .slice A0_1 l0_1.length c0_1, .slice A0_2 l0_2.length c0_2] 26 ?_; intro gb1608 hg w74 hbox hb; have BK1608 := zA (hbox); have GW1608 := gq HB hg; have GE1608 := gq HB hg; replace HB := xH HB hb; have := geI GE1608; clear hb hbox hg) | ((with_reducible refine gate_dst (N := 2) rfl ?_); refine bx 2 #[.int .i64 0, .slice none 0 0, .slice none 0 0] 37 ?_; intro gb1609 hg w75 hbox hb; have BK1609 := zA (hbox); have GW1609 := gq HB hg; have GE1609 := gq HB hg; replace HB := xH HB hb; have NB1608_1609 := zA ((by rw [hg]; exact neL BK1608 : gb1608 ≠ gb1609)); have NB1609_1608 := zA ((by rw [hg]; exact neG BK1608 : gb1609 ≠ gb1608)); replace BK1608 := xB BK1608 hb; have := geI GE1609; clear hb hbox hg; have hnb76 := NB1608_1609.out; have hnc76 := NB1609_1608.out; have hcz77_0 := bc BK1608 0; have hcz77_1 := bc BK1608 1; have hcz77_2 := bc BK1608 2; have hfz77_0 := bf BK1608 0; have hfz77_1 := bf BK1608 1; have hfz77_2 := bf BK1608 2) | ((with_reducible refine gate_callee (f := 57) rfl ?_); refine gL (some 9) Try.func57 #[.agg #[.int .i64 a0_0, .slice A0_1 l0_1.length c0_1, .slice A0_2 l0_2.length c0_2], .bool true] ?_; (with_reducible refine (impl_jacobiCode.calls k a0_0 _ _ l0_1 _ _ l0_2 true t1610 _ ?side1 ?side2 ?side3 ?side4 A2.out).mono ?_); (case side1 => exact uC ((Kd.C_below HR0_1.out HB.out))); (case side2 => exact HC0_1.out); (case side3 => exact uC ((Kd.C_below HR0_2.out HB.out))); (case side4 => exact HC0_2.out); rintro e w78 ⟨rfl, hb⟩; refine ⟨_, rfl, ?_⟩; replace BK1608 := xB BK1608 hb; replace BK1609 := xB BK1609 hb; replace HB := xH HB hb; (try clear hb); (try clear hb2); (try clear hk); (try clear hi); have hcz79_0 := bc BK1609 0; have hcz79_1 := bc BK1609 1; have hcz79_2 := bc BK1609 2; have hfz79_0 := bf BK1609 0; have hfz79_1 := bf BK1609 1; have hfz79_2 := bf BK1609 2))
  refine bodyPost_ret (results_ct rfl _ _ gb1609 37 #[.int .i64 0, .slice none 0 0, .slice none 0 0] (0, 0) _ rfl (by (repeat refine up1 ?_); refine blk_put (cs := #[.int .i64 0, .slice none 0 0, .slice none 0 0]) ?_ 2 _ rfl; (repeat refine up1 ?_); refine blk_put (cs := #[.int .i64 0, .slice none 0 0, .slice none 0 0]) ?_ 1 _ rfl; (repeat refine up1 ?_); refine blk_put (cs := #[.int .i64 0, .slice none 0 0, .slice none 0 0]) ?_ 0 _ rfl; (repeat refine up1 ?_); exact BK1609.out) Try.underlying37 rfl (by kernel_rfl)) rfl ?_
  exact ⟨_, _, by first | rfl | (simp [errW_none, errW_some] <;> rfl) | (simp [*, errW_none, errW_some] <;> rfl), by first | exact Kd.R_nil _ _ _ _ _ | exact Kd.N_nil _ _ _ _ _ | exact Kd.V_nil _ _ _ _ _ | exact Kd.Q_nil _ _ _ _ _ | exact Kd.S_nil _ _ _ _ _, by first | exact Kd.R_nil _ _ _ _ _ | exact Kd.N_nil _ _ _ _ _ | exact Kd.V_nil _ _ _ _ _ | exact Kd.Q_nil _ _ _ _ _ | exact Kd.S_nil _ _ _ _ _, uH HB.out⟩

 rw [if_pos c3] at H
 have c3b0 : (t1610 == 0) = true := beq_iff_eq.mpr c3
 have c3b1 : (t1610 != 0) = false := bne_eq_false_iff_eq.mpr c3
 clear c3
 replace H := Option.bind_eq_some_iff.mp H
 obtain ⟨t1611, A40, H⟩ := H
 replace H : ((impl_Jacobi_polys.f k a0_0 l0_1 l0_2).bind fun T1612 => ((impl_Jacobi_size.f a0_0 l0_1 l0_2).bind fun t1615 => (if 0 ≤ t1615 then (if t1615 < (T1612.length : Int) then ((impl_field_roots.f k t1611 (rd_L1 T1612 t1615)).bind fun t1616 => ((impl_length_int64.f t1616).bind fun t1620 => ((impl_Jacobi_size.f a0_0 l0_1 l0_2).bind fun t1621 => (if t1620 = t1621 then (impl_GaussRule.l0 k t1616 (t1616.length : Int) 0 a0_0 l0_1 l0_2 a0_0 t1616 ([] : List Int)) else (some (0, ([] : List Int), ([] : List Int), 4)))))) else (none)) else (none)))) = some (r1, r2, r3, r4) := H
 have A4 := zA A40
 clear A40
 replace H := Option.bind_eq_some_iff.mp H
 obtain ⟨T1612, A50, H⟩ := H
 replace H : ((impl_Jacobi_size.f a0_0 l0_1 l0_2).bind fun t1615 => (if 0 ≤ t1615 then (if t1615 < (T1612.length : Int) then ((impl_field_roots.f k t1611 (rd_L1 T1612 t1615)).bind fun t1616 => ((impl_length_int64.f t1616).bind fun t1620 => ((impl_Jacobi_size.f a0_0 l0_1 l0_2).bind fun t1621 => (if t1620 = t1621 then (impl_GaussRule.l0 k t1616 (t1616.length : Int) 0 a0_0 l0_1 l0_2 a0_0 t1616 ([] : List Int)) else (some (0, ([] : List Int), ([] : List Int), 4)))))) else (none)) else (none))) = some (r1, r2, r3, r4) := H
 have A5 := zA A50
 clear A50
 replace H := Option.bind_eq_some_iff.mp H
 obtain ⟨t1615, A60, H⟩ := H
 replace H : (if 0 ≤ t1615 then (if t1615 < (T1612.length : Int) then ((impl_field_roots.f k t1611 (rd_L1 T1612 t1615)).bind fun t1616 => ((impl_length_int64.f t1616).bind fun t1620 => ((impl_Jacobi_size.f a0_0 l0_1 l0_2).bind fun t1621 => (if t1620 = t1621 then (impl_GaussRule.l0 k t1616 (t1616.length : Int) 0 a0_0 l0_1 l0_2 a0_0 t1616 ([] : List Int)) else (some (0, ([] : List Int), ([] : List Int), 4)))))) else (none)) else (none)) = some (r1, r2, r3, r4) := H
 have CZ1 : Aside0 (0 ≤ t1615) := ⟨by
   by_cases c_ : 0 ≤ t1615
   · exact c_
   · rw [if_neg c_] at H; cases H⟩
 rw [if_pos CZ1.out] at H
 have CZ2 : Aside0 (t1615 < (T1612.length : Int)) := ⟨by
   by_cases c_ : t1615 < (T1612.length : Int)
   · exact c_
   · rw [if_neg c_] at H; cases H⟩
 rw [if_pos CZ2.out] at H
 obtain ⟨t1612, ht_⟩ : ∃ t_ : List Int, rd_L1 T1612 t1615 = t_ := ⟨_, rfl⟩
 rw [ht_] at H
 have HTZ := zA ht_
 clear ht_
 replace H : ((impl_field_roots.f k t1611 t1612).bind fun t1616 => ((impl_length_int64.f t1616).bind fun t1620 => ((impl_Jacobi_size.f a0_0 l0_1 l0_2).bind fun t1621 => (if t1620 = t1621 then (impl_GaussRule.l0 k t1616 (t1616.length : Int) 0 a0_0 l0_1 l0_2 a0_0 t1616 ([] : List Int)) else (some (0, ([] : List Int), ([] : List Int), 4)))))) = some (r1, r2, r3, r4) := H
 have A6 := zA A60
 clear A60
 replace H := Option.bind_eq_some_iff.mp H
 obtain ⟨t1616, A70, H⟩ := H
 replace H : ((impl_length_int64.f t1616).bind fun t1620 => ((impl_Jacobi_size.f a0_0 l0_1 l0_2).bind fun t1621 => (if t1620 = t1621 then (impl_GaussRule.l0 k t1616 (t1616.length : Int) 0 a0_0 l0_1 l0_2 a0_0 t1616 ([] : List Int)) else (some (0, ([] : List Int), ([] : List Int), 4))))) = some (r1, r2, r3, r4) := H
 have A7 := zA A70
 clear A70
 replace H := Option.bind_eq_some_iff.mp H
 obtain ⟨t1620, A80, H⟩ := H
 replace H : ((impl_Jacobi_size.f a0_0 l0_1 l0_2).bind fun t1621 => (if t1620 = t1621 then (impl_GaussRule.l0 k t1616 (t1616.length : Int) 0 a0_0 l0_1 l0_2 a0_0 t1616 ([] : List Int)) else (some (0, ([] : List Int), ([] : List Int), 4)))) = some (r1, r2, r3, r4) := H
 have A8 := zA A80
 clear A80
 replace H := Option.bind_eq_some_iff.mp H
 obtain ⟨t1621, A90, H⟩ := H
 replace H : (if t1620 = t1621 then (impl_GaussRule.l0 k t1616 (t1616.length : Int) 0 a0_0 l0_1 l0_2 a0_0 t1616 ([] : List Int)) else (some (0, ([] : List Int), ([] : List Int), 4))) = some (r1, r2, r3, r4) := H
 have A9 := zA A90
 clear A90
 by_cases c10 : t1620 = t1621
 rotate_left
 ·rw [if_neg c10] at H
  have c10b0 : (t1620 == t1621) = false := beq_eq_false_iff_ne.mpr c10
  have c10b1 : (t1620 != t1621) = true := bne_iff_ne.mpr c10
  simp only [Option.some.injEq, Prod.mk.injEq] at H
  obtain ⟨rfl, rfl, rfl, rfl⟩ := H
  go_enter Try.func35, Try.ntmps35
  try go_wp2_with (first | ((with_reducible refine gate_dst (N := 1) rfl ?_); refine bx 1 #[.int .i64 a0_0, .slice A0_1 l0_1.length c0_1, .slice A0_2 l0_2.length c0_2] 26 ?_; intro gb1608 hg w51 hbox hb; have BK1608 := zA (hbox); have GW1608 := gq HB hg; have GE1608 := gq HB hg; replace HB := xH HB hb; have := geI GE1608; clear hb hbox hg) | ((with_reducible refine gate_dst (N := 2) rfl ?_); refine bx 2 #[.int .i64 0, .slice none 0 0, .slice none 0 0] 37 ?_; intro gb1609 hg w52 hbox hb; have BK1609 := zA (hbox); have GW1609 := gq HB hg; have GE1609 := gq HB hg; replace HB := xH HB hb; have NB1608_1609 := zA ((by rw [hg]; exact neL BK1608 : gb1608 ≠ gb1609)); have NB1609_1608 := zA ((by rw [hg]; exact neG BK1608 : gb1609 ≠ gb1608)); replace BK1608 := xB BK1608 hb; have := geI GE1609; clear hb hbox hg; have hnb53 := NB1608_1609.out; have hnc53 := NB1609_1608.out; have hcz54_0 := bc BK1608 0; have hcz54_1 := bc BK1608 1; have hcz54_2 := bc BK1608 2; have hfz54_0 := bf BK1608 0; have hfz54_1 := bf BK1608 1; have hfz54_2 := bf BK1608 2) | ((with_reducible refine gate_callee (f := 57) rfl ?_); refine gL (some 9) Try.func57 #[.agg #[.int .i64 a0_0, .slice A0_1 l0_1.length c0_1, .slice A0_2 l0_2.length c0_2], .bool true] ?_; (with_reducible refine (impl_jacobiCode.calls k a0_0 _ _ l0_1 _ _ l0_2 true t1610 _ ?side1 ?side2 ?side3 ?side4 A2.out).mono ?_); (case side1 => exact uC ((Kd.C_below HR0_1.out HB.out))); (case side2 => exact HC0_1.out); (case side3 => exact uC ((Kd.C_below HR0_2.out HB.out))); (case side4 => exact HC0_2.out); rintro e w55 ⟨rfl, hb⟩; refine ⟨_, rfl, ?_⟩; replace BK1608 := xB BK1608 hb; replace BK1609 := xB BK1609 hb; replace HB := xH HB hb; (try clear hb); (try clear hb2); (try clear hk); (try clear hi)))
  replace BK1608 := zA (blk_drew BK1608.out)
  replace BK1609 := zA (blk_drew BK1609.out)
  replace HB := zA (below_drew1 HB.out)
  refine start_ (n := 14) (S := fun w' => w'.cell? ⟨gb1608, 0, none⟩ = some (.int .i64 a0_0) ∧ w'.cell? ⟨gb1608, 1, none⟩ = some (.slice A0_1 l0_1.length c0_1) ∧ w'.cell? ⟨gb1608, 2, none⟩ = some (.slice A0_2 l0_2.length c0_2)) (ds := []) #[false, false, false, false, false, false, false, false, false, false, false, false, false, false] (by kernel_rfl) rfl rfl ⟨bcu BK1608 0, bcu BK1608 1, bcu BK1608 2⟩ (fun hHeld => ?_); refine with_tabW impl_GaussRule.tab4 impl_GaussRule.bits4 (fun HT_ HW_ => ?_)
  generalize w55.drew = w56 at BK1608 BK1609 HB hHeld ⊢
  refine pu_ 0 14 (bl 14 1) HT_ ?_
  refine ta_ 1 15 (bl 14 3) HT_ HW_ hHeld ?_
  refine ta_ 2 16 (bl 14 7) HT_ HW_ hHeld ?_
  refine ta_ 4 18 (bl 14 23) HT_ HW_ hHeld ?_
  refine ta_ 6 20 (bl 14 87) HT_ HW_ hHeld ?_
  refine join_ (σ := Value × Value × Nat) 1 (bl 14 8191) (fun s_ => [(17, .int .i64 t1611), (19, prj s_.1 0), (21, .int .i64 t1615), (24, s_.2.1), (5, .pointer (some ⟨s_.2.2, 0, none⟩)), (22, prj s_.1 1), (23, prj s_.1 2), (25, .agg #[.int .i64 a0_0, s_.2.1, .slice none 0 0])]) (fun s_ w' => (w'.cell? ⟨gb1608, 0, none⟩ = some (.int .i64 a0_0) ∧ w'.cell? ⟨gb1608, 1, none⟩ = some (.slice A0_1 l0_1.length c0_1) ∧ w'.cell? ⟨gb1608, 2, none⟩ = some (.slice A0_2 l0_2.length c0_2)) ∧ (Kd.R (Kd.int .i64) 2 w' w.heap.size (fun k_ => some k_ ≠ (s_.2.1 : Value).ownBlock) (prj s_.1 2) t1612) ∧ (Kd.R (Kd.int .i64) 2 w' w.heap.size (fun k_ => some k_ ≠ (prj s_.1 2 : Value).ownBlock) s_.2.1 t1616) ∧ (w'.heap[gb1608]? = some (.cells #[.int .i64 a0_0, .slice A0_1 l0_1.length c0_1, .slice A0_2 l0_2.length c0_2] 26 (0, 0))) ∧ (w'.heap[gb1609]? = some (.cells #[.int .i64 0, .slice none 0 0, .slice none 0 0] 37 (0, 0))) ∧ (w'.heap[s_.2.2]? = some (.cells #[.int .i64 0, .slice none 0 0, .slice none 0 0] 37 (0, 0))) ∧ (w.heap.size ≤ s_.2.2) ∧ (w.heap.size ≤ s_.2.2) ∧ (gb1608 ≠ s_.2.2) ∧ (s_.2.2 ≠ gb1608) ∧ (gb1609 ≠ s_.2.2) ∧ (s_.2.2 ≠ gb1609) ∧ (Below w.heap.size w w')) ?_ ?_
  rotate_left
  ·intro hJ3_5_7_10_12
   refine join_ (σ := Value × Value) 2 (bl 14 4095) (fun s_ => [(17, .int .i64 t1611), (19, prj s_.1 0), (21, .int .i64 t1615), (24, s_.2), (22, prj s_.1 1), (23, prj s_.1 2), (25, .agg #[.int .i64 a0_0, s_.2, .slice none 0 0])]) (fun s_ w' => (w'.cell? ⟨gb1608, 0, none⟩ = some (.int .i64 a0_0) ∧ w'.cell? ⟨gb1608, 1, none⟩ = some (.slice A0_1 l0_1.length c0_1) ∧ w'.cell? ⟨gb1608, 2, none⟩ = some (.slice A0_2 l0_2.length c0_2)) ∧ (Kd.R (Kd.int .i64) 2 w' w.heap.size (fun k_ => some k_ ≠ (s_.2 : Value).ownBlock) (prj s_.1 2) t1612) ∧ (Kd.R (Kd.int .i64) 2 w' w.heap.size (fun k_ => some k_ ≠ (prj s_.1 2 : Value).ownBlock) s_.2 t1616) ∧ (w'.heap[gb1608]? = some (.cells #[.int .i64 a0_0, .slice A0_1 l0_1.length c0_1, .slice A0_2 l0_2.length c0_2] 26 (0, 0))) ∧ (w'.heap[gb1609]? = some (.cells #[.int .i64 0, .slice none 0 0, .slice none 0 0] 37 (0, 0))) ∧ (Below w.heap.size w w')) ?_ ?_
   rotate_left
   ·intro hJ3_5_7_10
    refine join_ (σ := Value × Nat) 3 (bl 14 5119) (fun s_ => [(17, .int .i64 t1611), (19, prj s_.1 0), (21, .int .i64 t1615), (5, .pointer (some ⟨s_.2, 0, none⟩)), (22, prj s_.1 1), (23, prj s_.1 2)]) (fun s_ w' => (w'.cell? ⟨gb1608, 0, none⟩ = some (.int .i64 a0_0) ∧ w'.cell? ⟨gb1608, 1, none⟩ = some (.slice A0_1 l0_1.length c0_1) ∧ w'.cell? ⟨gb1608, 2, none⟩ = some (.slice A0_2 l0_2.length c0_2)) ∧ (Kd.R (Kd.int .i64) 2 w' w.heap.size (fun _ => True) (prj s_.1 2) t1612) ∧ (w'.heap[gb1608]? = some (.cells #[.int .i64 a0_0, .slice A0_1 l0_1.length c0_1, .slice A0_2 l0_2.length c0_2] 26 (0, 0))) ∧ (w'.heap[gb1609]? = some (.cells #[.int .i64 0, .slice none 0 0, .slice none 0 0] 37 (0, 0))) ∧ (w'.heap[s_.2]? = some (.cells #[.int .i64 0, .slice none 0 0, .slice none 0 0] 37 (0, 0))) ∧ (w.heap.size ≤ s_.2) ∧ (w.heap.size ≤ s_.2) ∧ (gb1608 ≠ s_.2) ∧ (s_.2 ≠ gb1608) ∧ (gb1609 ≠ s_.2) ∧ (s_.2 ≠ gb1609) ∧ (Below w.heap.size w w')) ?_ ?_
    rotate_left
    ·intro hJ3_5_7_12
     refine join_ (σ := Value) 4 (bl 14 1023) (fun s_ => [(17, .int .i64 t1611), (19, prj s_ 0), (21, .int .i64 t1615), (22, prj s_ 1), (23, prj s_ 2)]) (fun s_ w' => (w'.cell? ⟨gb1608, 0, none⟩ = some (.int .i64 a0_0) ∧ w'.cell? ⟨gb1608, 1, none⟩ = some (.slice A0_1 l0_1.length c0_1) ∧ w'.cell? ⟨gb1608, 2, none⟩ = some (.slice A0_2 l0_2.length c0_2)) ∧ (Kd.R (Kd.int .i64) 2 w' w.heap.size (fun _ => True) (prj s_ 2) t1612) ∧ (w'.heap[gb1608]? = some (.cells #[.int .i64 a0_0, .slice A0_1 l0_1.length c0_1, .slice A0_2 l0_2.length c0_2] 26 (0, 0))) ∧ (w'.heap[gb1609]? = some (.cells #[.int .i64 0, .slice none 0 0, .slice none 0 0] 37 (0, 0))) ∧ (Below w.heap.size w w')) ?_ ?_
     rotate_left
     ·intro hJ3_5_7
      refine join_ (σ := Value × Nat) 6 (bl 14 4223) (fun s_ => [(17, .int .i64 t1611), (19, s_.1), (5, .pointer (some ⟨s_.2, 0, none⟩))]) (fun s_ w' => (w'.cell? ⟨gb1608, 0, none⟩ = some (.int .i64 a0_0) ∧ w'.cell? ⟨gb1608, 1, none⟩ = some (.slice A0_1 l0_1.length c0_1) ∧ w'.cell? ⟨gb1608, 2, none⟩ = some (.slice A0_2 l0_2.length c0_2)) ∧ (Kd.R (Kd.slice 2 (Kd.int .i64)) 22 w' w.heap.size (fun _ => True) s_.1 T1612) ∧ (w'.heap[gb1608]? = some (.cells #[.int .i64 a0_0, .slice A0_1 l0_1.length c0_1, .slice A0_2 l0_2.length c0_2] 26 (0, 0))) ∧ (w'.heap[gb1609]? = some (.cells #[.int .i64 0, .slice none 0 0, .slice none 0 0] 37 (0, 0))) ∧ (w'.heap[s_.2]? = some (.cells #[.int .i64 0, .slice none 0 0, .slice none 0 0] 37 (0, 0))) ∧ (w.heap.size ≤ s_.2) ∧ (w.heap.size ≤ s_.2) ∧ (gb1608 ≠ s_.2) ∧ (s_.2 ≠ gb1608) ∧ (gb1609 ≠ s_.2) ∧ (s_.2 ≠ gb1609) ∧ (Below w.heap.size w w')) ?_ ?_
      rotate_left
      ·intro hJ3_5_12
       refine join_ (σ := Value) 7 (bl 14 127) (fun s_ => [(17, .int .i64 t1611), (19, s_)]) (fun s_ w' => (w'.cell? ⟨gb1608, 0, none⟩ = some (.int .i64 a0_0) ∧ w'.cell? ⟨gb1608, 1, none⟩ = some (.slice A0_1 l0_1.length c0_1) ∧ w'.cell? ⟨gb1608, 2, none⟩ = some (.slice A0_2 l0_2.length c0_2)) ∧ (Kd.R (Kd.slice 2 (Kd.int .i64)) 22 w' w.heap.size (fun _ => True) s_ T1612) ∧ (w'.heap[gb1608]? = some (.cells #[.int .i64 a0_0, .slice A0_1 l0_1.length c0_1, .slice A0_2 l0_2.length c0_2] 26 (0, 0))) ∧ (w'.heap[gb1609]? = some (.cells #[.int .i64 0, .slice none 0 0, .slice none 0 0] 37 (0, 0))) ∧ (Below w.heap.size w w')) ?_ ?_
       rotate_left
       ·intro hJ3_5
        refine join_ (σ := Nat) 7 (bl 14 4191) (fun s_ => [(17, .int .i64 t1611), (5, .pointer (some ⟨s_, 0, none⟩))]) (fun s_ w' => (w'.cell? ⟨gb1608, 0, none⟩ = some (.int .i64 a0_0) ∧ w'.cell? ⟨gb1608, 1, none⟩ = some (.slice A0_1 l0_1.length c0_1) ∧ w'.cell? ⟨gb1608, 2, none⟩ = some (.slice A0_2 l0_2.length c0_2)) ∧ (w'.heap[gb1608]? = some (.cells #[.int .i64 a0_0, .slice A0_1 l0_1.length c0_1, .slice A0_2 l0_2.length c0_2] 26 (0, 0))) ∧ (w'.heap[gb1609]? = some (.cells #[.int .i64 0, .slice none 0 0, .slice none 0 0] 37 (0, 0))) ∧ (w'.heap[s_]? = some (.cells #[.int .i64 0, .slice none 0 0, .slice none 0 0] 37 (0, 0))) ∧ (w.heap.size ≤ s_) ∧ (w.heap.size ≤ s_) ∧ (gb1608 ≠ s_) ∧ (s_ ≠ gb1608) ∧ (gb1609 ≠ s_) ∧ (s_ ≠ gb1609) ∧ (Below w.heap.size w w')) ?_ ?_
        rotate_left
        ·intro hJ3_12
         refine join_ (σ := Unit) 8 (bl 14 95) (fun s_ => [(17, .int .i64 t1611)]) (fun s_ w' => (w'.cell? ⟨gb1608, 0, none⟩ = some (.int .i64 a0_0) ∧ w'.cell? ⟨gb1608, 1, none⟩ = some (.slice A0_1 l0_1.length c0_1) ∧ w'.cell? ⟨gb1608, 2, none⟩ = some (.slice A0_2 l0_2.length c0_2)) ∧ (w'.heap[gb1608]? = some (.cells #[.int .i64 a0_0, .slice A0_1 l0_1.length c0_1, .slice A0_2 l0_2.length c0_2] 26 (0, 0))) ∧ (w'.heap[gb1609]? = some (.cells #[.int .i64 0, .slice none 0 0, .slice none 0 0] 37 (0, 0))) ∧ (Below w.heap.size w w')) ?_ ?_
         rotate_left
         ·intro hJ3
          refine join_ (σ := Nat) 8 (bl 14 4183) (fun s_ => [(5, .pointer (some ⟨s_, 0, none⟩))]) (fun s_ w' => (w'.cell? ⟨gb1608, 0, none⟩ = some (.int .i64 a0_0) ∧ w'.cell? ⟨gb1608, 1, none⟩ = some (.slice A0_1 l0_1.length c0_1) ∧ w'.cell? ⟨gb1608, 2, none⟩ = some (.slice A0_2 l0_2.length c0_2)) ∧ (w'.heap[gb1608]? = some (.cells #[.int .i64 a0_0, .slice A0_1 l0_1.length c0_1, .slice A0_2 l0_2.length c0_2] 26 (0, 0))) ∧ (w'.heap[gb1609]? = some (.cells #[.int .i64 0, .slice none 0 0, .slice none 0 0] 37 (0, 0))) ∧ (w'.heap[s_]? = some (.cells #[.int .i64 0, .slice none 0 0, .slice none 0 0] 37 (0, 0))) ∧ (w.heap.size ≤ s_) ∧ (w.heap.size ≤ s_) ∧ (gb1608 ≠ s_) ∧ (s_ ≠ gb1608) ∧ (gb1609 ≠ s_) ∧ (s_ ≠ gb1609) ∧ (Below w.heap.size w w')) ?_ ?_
          rotate_left
          ·intro hJ12
           refine two_ (i := 3) (j := 12) (Ni := some 17) (Nj := some 5) (bl 14 95) (bl 14 4183) rfl rfl rfl rfl (two_of HT_.out (by kernel_rfl)) (by decide) (by decide) (fun K hK => ?_) (fun K hK => ?_)
           ·skip
            refine gS Try.func79 #[.agg #[.int .i64 a0_0, .slice A0_1 l0_1.length c0_1, .slice A0_2 l0_2.length c0_2]] ?_
            with_reducible refine (impl_Jacobi_field.calls a0_0 _ _ l0_1 _ _ l0_2 t1611 _ ?side1 ?side2 ?side3 ?side4 A4.out).mono ?_
            (case side1 => exact uC ((Kd.C_below HR0_1.out HB.out)))
            (case side2 => exact HC0_1.out)
            (case side3 => exact uC ((Kd.C_below HR0_2.out HB.out)))
            (case side4 => exact HC0_2.out)
            rintro e w57 ⟨rfl, hb⟩
            refine ⟨_, rfl, ?_⟩
            replace BK1608 := xB BK1608 hb
            replace BK1609 := xB BK1609 hb
            replace HB := xH HB hb
            (try clear hb); (try clear hb2); (try clear hk); (try clear hi)
            refine hK.out _ _ ⟨bcu BK1608 0, bcu BK1608 1, bcu BK1608 2⟩ (fun hHeld => ?_)
            clear hK K
            refine no_ 17 ?_
            exact norm_ (by first | (simp only [putAll, Act.put, ls, lz, ln]; done) | (simp only [putAll, Act.put, ls, lz, ln]; rfl)) (hJ3 () _ ⟨hHeld, (uB BK1608.out), (uB BK1609.out), (uH HB.out)⟩)
           ·skip
            refine box_step ?hg (N := 5) ?hd (cs := #[.int .i64 0, .slice none 0 0, .slice none 0 0]) (t := 37) ?hr ?_; (case hd => rfl); (case hg => rfl); (case hr => first | (go_simp; done) | (go_simp; rfl))
            intro gb1619 hg w57 hbox hb
            have BK1619 := zA (hbox)
            have GW1619 := gq HB hg
            have GE1619 := gq HB hg
            replace HB := xH HB hb
            have NB1608_1619 := zA ((by rw [hg]; exact neL BK1608 : gb1608 ≠ gb1619))
            have NB1619_1608 := zA ((by rw [hg]; exact neG BK1608 : gb1619 ≠ gb1608))
            replace BK1608 := xB BK1608 hb
            have NB1609_1619 := zA ((by rw [hg]; exact neL BK1609 : gb1609 ≠ gb1619))
            have NB1619_1609 := zA ((by rw [hg]; exact neG BK1609 : gb1619 ≠ gb1609))
            replace BK1609 := xB BK1609 hb
            have := geI GE1619
            clear hb hbox hg
            refine hK.out _ _ ⟨bcu BK1608 0, bcu BK1608 1, bcu BK1608 2⟩ (fun hHeld => ?_)
            clear hK K
            refine no_ 5 ?_
            exact norm_ (by first | (simp only [putAll, Act.put, ls, lz, ln]; done) | (simp only [putAll, Act.put, ls, lz, ln]; rfl)) (hJ12 (gb1619) _ ⟨hHeld, (uB BK1608.out), (uB BK1609.out), (uB BK1619.out), GW1619.out, GE1619.out, NB1608_1619.out, NB1619_1608.out, NB1609_1619.out, NB1619_1609.out, (uH HB.out)⟩)
          ·skip
           rintro gb1619 w58 ⟨hS_, h0_, h1_, h2_, h3_, h4_, h5_, h6_, h7_, h8_, h9_⟩
           have n0_ : Aside0 (w58.heap[gb1608]? = some (.cells #[.int .i64 a0_0, .slice A0_1 l0_1.length c0_1, .slice A0_2 l0_2.length c0_2] 26 (0, 0))) := ⟨h0_⟩
           have n1_ : Aside0 (w58.heap[gb1609]? = some (.cells #[.int .i64 0, .slice none 0 0, .slice none 0 0] 37 (0, 0))) := ⟨h1_⟩
           have n2_ : Aside0 (w58.heap[gb1619]? = some (.cells #[.int .i64 0, .slice none 0 0, .slice none 0 0] 37 (0, 0))) := ⟨h2_⟩
           have n3_ : Aside0 (w.heap.size ≤ gb1619) := ⟨h3_⟩
           have n4_ : Aside0 (w.heap.size ≤ gb1619) := ⟨h4_⟩
           have n5_ : Aside0 (gb1608 ≠ gb1619) := ⟨h5_⟩
           have n6_ : Aside0 (gb1619 ≠ gb1608) := ⟨h6_⟩
           have n7_ : Aside0 (gb1609 ≠ gb1619) := ⟨h7_⟩
           have n8_ : Aside0 (gb1619 ≠ gb1609) := ⟨h8_⟩
           have n9_ : Aside0 (Below w.heap.size w w58) := ⟨h9_⟩
           clear BK1608 BK1609 HB
           clear h0_ h1_ h2_ h3_ h4_ h5_ h6_ h7_ h8_ h9_
           have BK1608 := n0_
           have BK1609 := n1_
           have BK1619 := n2_
           have GW1619 := n3_
           have GE1619 := n4_
           have := geI GE1619
           have NB1608_1619 := n5_
           have NB1619_1608 := n6_
           have NB1609_1619 := n7_
           have NB1619_1609 := n8_
           have HB := n9_
           clear n0_ n1_ n2_ n3_ n4_ n5_ n6_ n7_ n8_ n9_
           have hHeld : w58.cell? ⟨gb1608, 0, none⟩ = some (.int .i64 a0_0) ∧ w58.cell? ⟨gb1608, 1, none⟩ = some (.slice A0_1 l0_1.length c0_1) ∧ w58.cell? ⟨gb1608, 2, none⟩ = some (.slice A0_2 l0_2.length c0_2) := hS_
           refine norm_ (a' := ?_) ?_ ?_
           rotate_left
           ·simp only [putAll, Act.put, ls, lz, ln]
            rfl
           refine on_ 3 (some 17) (bl 14 4191) HT_ (fun K hK => ?_)
           refine gS Try.func79 #[.agg #[.int .i64 a0_0, .slice A0_1 l0_1.length c0_1, .slice A0_2 l0_2.length c0_2]] ?_
           with_reducible refine (impl_Jacobi_field.calls a0_0 _ _ l0_1 _ _ l0_2 t1611 _ ?side1 ?side2 ?side3 ?side4 A4.out).mono ?_
           (case side1 => exact uC ((Kd.C_below HR0_1.out HB.out)))
           (case side2 => exact HC0_1.out)
           (case side3 => exact uC ((Kd.C_below HR0_2.out HB.out)))
           (case side4 => exact HC0_2.out)
           rintro e w59 ⟨rfl, hb⟩
           refine ⟨_, rfl, ?_⟩
           replace BK1608 := xB BK1608 hb
           replace BK1609 := xB BK1609 hb
           replace BK1619 := xB BK1619 hb
           replace HB := xH HB hb
           (try clear hb); (try clear hb2); (try clear hk); (try clear hi)
           refine hK.out _ _ ⟨bcu BK1608 0, bcu BK1608 1, bcu BK1608 2⟩ (fun hHeld => ?_)
           clear hK K
           refine no_ 17 ?_
           exact norm_ (by first | (simp only [putAll, Act.put, ls, lz, ln]; done) | (simp only [putAll, Act.put, ls, lz, ln]; rfl)) (hJ3_12 (gb1619) _ ⟨hHeld, (uB BK1608.out), (uB BK1609.out), (uB BK1619.out), GW1619.out, GE1619.out, NB1608_1619.out, NB1619_1608.out, NB1609_1619.out, NB1619_1609.out, (uH HB.out)⟩)
         ·skip
          rintro _ w58 ⟨hS_, h0_, h1_, h2_⟩
          have n0_ : Aside0 (w58.heap[gb1608]? = some (.cells #[.int .i64 a0_0, .slice A0_1 l0_1.length c0_1, .slice A0_2 l0_2.length c0_2] 26 (0, 0))) := ⟨h0_⟩
          have n1_ : Aside0 (w58.heap[gb1609]? = some (.cells #[.int .i64 0, .slice none 0 0, .slice none 0 0] 37 (0, 0))) := ⟨h1_⟩
          have n2_ : Aside0 (Below w.heap.size w w58) := ⟨h2_⟩
          clear BK1608 BK1609 HB
          clear h0_ h1_ h2_
          have BK1608 := n0_
          have BK1609 := n1_
          have HB := n2_
          clear n0_ n1_ n2_
          have hHeld : w58.cell? ⟨gb1608, 0, none⟩ = some (.int .i64 a0_0) ∧ w58.cell? ⟨gb1608, 1, none⟩ = some (.slice A0_1 l0_1.length c0_1) ∧ w58.cell? ⟨gb1608, 2, none⟩ = some (.slice A0_2 l0_2.length c0_2) := hS_
          refine norm_ (a' := ?_) ?_ ?_
          rotate_left
          ·simp only [putAll, Act.put, ls, lz, ln]
           rfl
          refine two_ (i := 5) (j := 12) (Ni := some 19) (Nj := some 5) (bl 14 127) (bl 14 4191) rfl rfl rfl rfl (two_of HT_.out (by kernel_rfl)) (by decide) (by decide) (fun K hK => ?_) (fun K hK => ?_)
          ·skip
           refine gS Try.func81 #[.agg #[.int .i64 a0_0, .slice A0_1 l0_1.length c0_1, .slice A0_2 l0_2.length c0_2]] ?_
           with_reducible refine (impl_Jacobi_polys.callsR k a0_0 _ _ l0_1 _ _ l0_2 T1612 _ ?side1 ?side2 ?side3 ?side4 A5.out).mono ?_
           (case side1 => exact uC ((Kd.C_below HR0_1.out HB.out)))
           (case side2 => exact HC0_1.out)
           (case side3 => exact uC ((Kd.C_below HR0_2.out HB.out)))
           (case side4 => exact HC0_2.out)
           rintro e w59 ⟨v1613, rfl, ho0, hb⟩
           refine ⟨_, rfl, ?_⟩
           have HO1614 := zA (Kd.R_mono (ok' := fun _ => True) (Kd.R_lower ho0 (below_size (uH HB.out))) (fun _ _ => trivial))
           replace BK1608 := xB BK1608 hb
           replace BK1609 := xB BK1609 hb
           replace HB := xH HB hb
           (try clear hb); (try clear hb2); (try clear hk); (try clear hi); (try clear ho0)
           refine hK.out _ _ ⟨bcu BK1608 0, bcu BK1608 1, bcu BK1608 2⟩ (fun hHeld => ?_)
           clear hK K
           refine no_ 19 ?_
           exact norm_ (by first | (simp only [putAll, Act.put, ls, lz, ln]; done) | (simp only [putAll, Act.put, ls, lz, ln]; rfl)) (hJ3_5 (v1613) _ ⟨hHeld, (uR HO1614.out), (uB BK1608.out), (uB BK1609.out), (uH HB.out)⟩)
          ·skip
           refine box_step ?hg (N := 5) ?hd (cs := #[.int .i64 0, .slice none 0 0, .slice none 0 0]) (t := 37) ?hr ?_; (case hd => rfl); (case hg => rfl); (case hr => first | (go_simp; done) | (go_simp; rfl))
           intro gb1619 hg w59 hbox hb
           have BK1619 := zA (hbox)
           have GW1619 := gq HB hg
           have GE1619 := gq HB hg
           replace HB := xH HB hb
           have NB1608_1619 := zA ((by rw [hg]; exact neL BK1608 : gb1608 ≠ gb1619))
           have NB1619_1608 := zA ((by rw [hg]; exact neG BK1608 : gb1619 ≠ gb1608))
           replace BK1608 := xB BK1608 hb
           have NB1609_1619 := zA ((by rw [hg]; exact neL BK1609 : gb1609 ≠ gb1619))
           have NB1619_1609 := zA ((by rw [hg]; exact neG BK1609 : gb1619 ≠ gb1609))
           replace BK1609 := xB BK1609 hb
           have := geI GE1619
           clear hb hbox hg
           refine hK.out _ _ ⟨bcu BK1608 0, bcu BK1608 1, bcu BK1608 2⟩ (fun hHeld => ?_)
           clear hK K
           refine no_ 5 ?_
           exact norm_ (by first | (simp only [putAll, Act.put, ls, lz, ln]; done) | (simp only [putAll, Act.put, ls, lz, ln]; rfl)) (hJ3_12 (gb1619) _ ⟨hHeld, (uB BK1608.out), (uB BK1609.out), (uB BK1619.out), GW1619.out, GE1619.out, NB1608_1619.out, NB1619_1608.out, NB1609_1619.out, NB1619_1609.out, (uH HB.out)⟩)
        ·skip
         rintro gb1619 w59 ⟨hS_, h0_, h1_, h2_, h3_, h4_, h5_, h6_, h7_, h8_, h9_⟩
         have n0_ : Aside0 (w59.heap[gb1608]? = some (.cells #[.int .i64 a0_0, .slice A0_1 l0_1.length c0_1, .slice A0_2 l0_2.length c0_2] 26 (0, 0))) := ⟨h0_⟩
         have n1_ : Aside0 (w59.heap[gb1609]? = some (.cells #[.int .i64 0, .slice none 0 0, .slice none 0 0] 37 (0, 0))) := ⟨h1_⟩
         have n2_ : Aside0 (w59.heap[gb1619]? = some (.cells #[.int .i64 0, .slice none 0 0, .slice none 0 0] 37 (0, 0))) := ⟨h2_⟩
         have n3_ : Aside0 (w.heap.size ≤ gb1619) := ⟨h3_⟩
         have n4_ : Aside0 (w.heap.size ≤ gb1619) := ⟨h4_⟩
         have n5_ : Aside0 (gb1608 ≠ gb1619) := ⟨h5_⟩
         have n6_ : Aside0 (gb1619 ≠ gb1608) := ⟨h6_⟩
         have n7_ : Aside0 (gb1609 ≠ gb1619) := ⟨h7_⟩
         have n8_ : Aside0 (gb1619 ≠ gb1609) := ⟨h8_⟩
         have n9_ : Aside0 (Below w.heap.size w w59) := ⟨h9_⟩
         clear BK1608 BK1609 HB
         clear h0_ h1_ h2_ h3_ h4_ h5_ h6_ h7_ h8_ h9_
         have BK1608 := n0_
         have BK1609 := n1_
         have BK1619 := n2_
         have GW1619 := n3_
         have GE1619 := n4_
         have := geI GE1619
         have NB1608_1619 := n5_
         have NB1619_1608 := n6_
         have NB1609_1619 := n7_
         have NB1619_1609 := n8_
         have HB := n9_
         clear n0_ n1_ n2_ n3_ n4_ n5_ n6_ n7_ n8_ n9_
         have hHeld : w59.cell? ⟨gb1608, 0, none⟩ = some (.int .i64 a0_0) ∧ w59.cell? ⟨gb1608, 1, none⟩ = some (.slice A0_1 l0_1.length c0_1) ∧ w59.cell? ⟨gb1608, 2, none⟩ = some (.slice A0_2 l0_2.length c0_2) := hS_
         refine norm_ (a' := ?_) ?_ ?_
         rotate_left
         ·simp only [putAll, Act.put, ls, lz, ln]
          rfl
         refine on_ 5 (some 19) (bl 14 4223) HT_ (fun K hK => ?_)
         refine gS Try.func81 #[.agg #[.int .i64 a0_0, .slice A0_1 l0_1.length c0_1, .slice A0_2 l0_2.length c0_2]] ?_
         with_reducible refine (impl_Jacobi_polys.callsR k a0_0 _ _ l0_1 _ _ l0_2 T1612 _ ?side1 ?side2 ?side3 ?side4 A5.out).mono ?_
         (case side1 => exact uC ((Kd.C_below HR0_1.out HB.out)))
         (case side2 => exact HC0_1.out)
         (case side3 => exact uC ((Kd.C_below HR0_2.out HB.out)))
         (case side4 => exact HC0_2.out)
         rintro e w60 ⟨v1613, rfl, ho0, hb⟩
         refine ⟨_, rfl, ?_⟩
         have HO1614 := zA (Kd.R_mono (ok' := fun _ => True) (Kd.R_lower ho0 (below_size (uH HB.out))) (fun _ _ => trivial))
         replace BK1608 := xB BK1608 hb
         replace BK1609 := xB BK1609 hb
         replace BK1619 := xB BK1619 hb
         replace HB := xH HB hb
         (try clear hb); (try clear hb2); (try clear hk); (try clear hi); (try clear ho0)
         refine hK.out _ _ ⟨bcu BK1608 0, bcu BK1608 1, bcu BK1608 2⟩ (fun hHeld => ?_)
         clear hK K
         refine no_ 19 ?_
         exact norm_ (by first | (simp only [putAll, Act.put, ls, lz, ln]; done) | (simp only [putAll, Act.put, ls, lz, ln]; rfl)) (hJ3_5_12 (v1613, gb1619) _ ⟨hHeld, (uR HO1614.out), (uB BK1608.out), (uB BK1609.out), (uB BK1619.out), GW1619.out, GE1619.out, NB1608_1619.out, NB1619_1608.out, NB1609_1619.out, NB1619_1609.out, (uH HB.out)⟩)
       ·skip
        rintro v1613 w59 ⟨hS_, h0_, h1_, h2_, h3_⟩
        have n0_ : Aside0 (Kd.R (Kd.slice 2 (Kd.int .i64)) 22 w59 w.heap.size (fun _ => True) v1613 T1612) := ⟨h0_⟩
        have n1_ : Aside0 (w59.heap[gb1608]? = some (.cells #[.int .i64 a0_0, .slice A0_1 l0_1.length c0_1, .slice A0_2 l0_2.length c0_2] 26 (0, 0))) := ⟨h1_⟩
        have n2_ : Aside0 (w59.heap[gb1609]? = some (.cells #[.int .i64 0, .slice none 0 0, .slice none 0 0] 37 (0, 0))) := ⟨h2_⟩
        have n3_ : Aside0 (Below w.heap.size w w59) := ⟨h3_⟩
        clear BK1608 BK1609 HB
        clear h0_ h1_ h2_ h3_
        have HO1614 := n0_
        have BK1608 := n1_
        have BK1609 := n2_
        have HB := n3_
        clear n0_ n1_ n2_ n3_
        have hHeld : w59.cell? ⟨gb1608, 0, none⟩ = some (.int .i64 a0_0) ∧ w59.cell? ⟨gb1608, 1, none⟩ = some (.slice A0_1 l0_1.length c0_1) ∧ w59.cell? ⟨gb1608, 2, none⟩ = some (.slice A0_2 l0_2.length c0_2) := hS_
        refine norm_ (a' := ?_) ?_ ?_
        rotate_left
        ·simp only [putAll, Act.put, ls, lz, ln]
         rfl
        refine two_ (i := 7) (j := 12) (Ni := some 21) (Nj := some 5) (bl 14 255) (bl 14 4223) rfl rfl rfl rfl (two_of HT_.out (by kernel_rfl)) (by decide) (by decide) (fun K hK => ?_) (fun K hK => ?_)
        ·skip
         refine gS Try.func59 #[.agg #[.int .i64 a0_0, .slice A0_1 l0_1.length c0_1, .slice A0_2 l0_2.length c0_2]] ?_
         with_reducible refine (impl_Jacobi_size.calls a0_0 _ _ l0_1 _ _ l0_2 t1615 _ ?side1 ?side2 ?side3 ?side4 A6.out).mono ?_
         (case side1 => exact uC ((Kd.C_below HR0_1.out HB.out)))
         (case side2 => exact HC0_1.out)
         (case side3 => exact uC ((Kd.C_below HR0_2.out HB.out)))
         (case side4 => exact HC0_2.out)
         rintro e w60 ⟨rfl, hb⟩
         refine ⟨_, rfl, ?_⟩
         replace HO1614 := xR HO1614 hb
         replace BK1608 := xB BK1608 hb
         replace BK1609 := xB BK1609 hb
         replace HB := xH HB hb
         (try clear hb); (try clear hb2); (try clear hk); (try clear hi)
         refine hK.out _ _ ⟨bcu BK1608 0, bcu BK1608 1, bcu BK1608 2⟩ (fun hHeld => ?_)
         clear hK K
         refine no_ 21 ?_
         obtain ⟨Aoz, coz, eoz⟩ := Kd.R_slice HO1614.out
         subst eoz
         obtain ⟨adz, Az, cz, ez, hxz, hlz, hiz⟩ := at_L1 (Kd.R_reads' HO1614.out).2.2 t1615 CZ1.out CZ2.out
         cases ez
         have HEZ := zA (R_elemA HO1614.out t1615 CZ1.out CZ2.out hxz)
         rw [HTZ.out] at HEZ hxz
         have pz := eq_true CZ1.out
         have qz := eq_true CZ2.out
         refine pu_ 8 22 (bl 14 511) HT_ ?_
         refine two_ (i := 9) (j := 12) (Ni := some 23) (Nj := some 5) (bl 14 1023) (bl 14 4607) rfl rfl rfl rfl (two_of HT_.out (by kernel_rfl)) (by decide) (by decide) (fun K hK => ?_) (fun K hK => ?_)
         ·refine value_ rfl rfl (by go_simp; exact ⟨rfl, rfl⟩) ?_
          refine hK.out _ _ hHeld (fun hHeld => ?_)
          clear hK K
          refine no_ 23 ?_
          have HO1614 := HEZ
          exact norm_ (by first | (simp only [putAll, Act.put, ls, lz, ln]; done) | (simp only [putAll, Act.put, ls, lz, ln]; rfl)) (hJ3_5_7 (.tuple #[.slice (some adz) T1612.length coz, .pointer (some (adz.add t1615.toNat)), .slice Az t1612.length cz]) _ ⟨hHeld, (uR HO1614.out), (uB BK1608.out), (uB BK1609.out), (uH HB.out)⟩)
         ·skip
          refine box_step ?hg (N := 5) ?hd (cs := #[.int .i64 0, .slice none 0 0, .slice none 0 0]) (t := 37) ?hr ?_; (case hd => rfl); (case hg => rfl); (case hr => first | (go_simp; done) | (go_simp; rfl))
          intro gb1619 hg w60 hbox hb
          replace HO1614 := xR HEZ hb; replace hxz := (hb.cell (World.block_lt_of_cell? _ _ hxz)).trans hxz
          have BK1619 := zA (hbox)
          have GW1619 := gq HB hg
          have GE1619 := gq HB hg
          replace HB := xH HB hb
          have NB1608_1619 := zA ((by rw [hg]; exact neL BK1608 : gb1608 ≠ gb1619))
          have NB1619_1608 := zA ((by rw [hg]; exact neG BK1608 : gb1619 ≠ gb1608))
          replace BK1608 := xB BK1608 hb
          have NB1609_1619 := zA ((by rw [hg]; exact neL BK1609 : gb1609 ≠ gb1619))
          have NB1619_1609 := zA ((by rw [hg]; exact neG BK1609 : gb1619 ≠ gb1609))
          replace BK1609 := xB BK1609 hb
          have := geI GE1619
          clear hb hbox hg
          refine hK.out _ _ ⟨bcu BK1608 0, bcu BK1608 1, bcu BK1608 2⟩ (fun hHeld => ?_)
          clear hK K
          refine no_ 5 ?_
          refine lo_ 9 23 (bl 14 5119) HT_ hHeld ?_
          exact norm_ (by first | (simp only [putAll, Act.put, ls, lz, ln]; done) | (simp only [putAll, Act.put, ls, lz, ln]; rfl)) (hJ3_5_7_12 (.tuple #[.slice (some adz) T1612.length coz, .pointer (some (adz.add t1615.toNat)), .slice Az t1612.length cz], gb1619) _ ⟨hHeld, (uR HO1614.out), (uB BK1608.out), (uB BK1609.out), (uB BK1619.out), GW1619.out, GE1619.out, NB1608_1619.out, NB1619_1608.out, NB1609_1619.out, NB1619_1609.out, (uH HB.out)⟩)
        ·skip
         refine box_step ?hg (N := 5) ?hd (cs := #[.int .i64 0, .slice none 0 0, .slice none 0 0]) (t := 37) ?hr ?_; (case hd => rfl); (case hg => rfl); (case hr => first | (go_simp; done) | (go_simp; rfl))
         intro gb1619 hg w60 hbox hb
         replace HO1614 := xR HO1614 hb
         have BK1619 := zA (hbox)
         have GW1619 := gq HB hg
         have GE1619 := gq HB hg
         replace HB := xH HB hb
         have NB1608_1619 := zA ((by rw [hg]; exact neL BK1608 : gb1608 ≠ gb1619))
         have NB1619_1608 := zA ((by rw [hg]; exact neG BK1608 : gb1619 ≠ gb1608))
         replace BK1608 := xB BK1608 hb
         have NB1609_1619 := zA ((by rw [hg]; exact neL BK1609 : gb1609 ≠ gb1619))
         have NB1619_1609 := zA ((by rw [hg]; exact neG BK1609 : gb1619 ≠ gb1609))
         replace BK1609 := xB BK1609 hb
         have := geI GE1619
         clear hb hbox hg
         refine hK.out _ _ ⟨bcu BK1608 0, bcu BK1608 1, bcu BK1608 2⟩ (fun hHeld => ?_)
         clear hK K
         refine no_ 5 ?_
         exact norm_ (by first | (simp only [putAll, Act.put, ls, lz, ln]; done) | (simp only [putAll, Act.put, ls, lz, ln]; rfl)) (hJ3_5_12 (v1613, gb1619) _ ⟨hHeld, (uR HO1614.out), (uB BK1608.out), (uB BK1609.out), (uB BK1619.out), GW1619.out, GE1619.out, NB1608_1619.out, NB1619_1608.out, NB1609_1619.out, NB1619_1609.out, (uH HB.out)⟩)
      ·skip
       rintro ⟨v1613, gb1619⟩ w60 ⟨hS_, h0_, h1_, h2_, h3_, h4_, h5_, h6_, h7_, h8_, h9_, h10_⟩
       have n0_ : Aside0 (Kd.R (Kd.slice 2 (Kd.int .i64)) 22 w60 w.heap.size (fun _ => True) v1613 T1612) := ⟨h0_⟩
       have n1_ : Aside0 (w60.heap[gb1608]? = some (.cells #[.int .i64 a0_0, .slice A0_1 l0_1.length c0_1, .slice A0_2 l0_2.length c0_2] 26 (0, 0))) := ⟨h1_⟩
       have n2_ : Aside0 (w60.heap[gb1609]? = some (.cells #[.int .i64 0, .slice none 0 0, .slice none 0 0] 37 (0, 0))) := ⟨h2_⟩
       have n3_ : Aside0 (w60.heap[gb1619]? = some (.cells #[.int .i64 0, .slice none 0 0, .slice none 0 0] 37 (0, 0))) := ⟨h3_⟩
       have n4_ : Aside0 (w.heap.size ≤ gb1619) := ⟨h4_⟩
       have n5_ : Aside0 (w.heap.size ≤ gb1619) := ⟨h5_⟩
       have n6_ : Aside0 (gb1608 ≠ gb1619) := ⟨h6_⟩
       have n7_ : Aside0 (gb1619 ≠ gb1608) := ⟨h7_⟩
       have n8_ : Aside0 (gb1609 ≠ gb1619) := ⟨h8_⟩
       have n9_ : Aside0 (gb1619 ≠ gb1609) := ⟨h9_⟩
       have n10_ : Aside0 (Below w.heap.size w w60) := ⟨h10_⟩
       clear BK1608 BK1609 HB
       clear h0_ h1_ h2_ h3_ h4_ h5_ h6_ h7_ h8_ h9_ h10_
       have HO1614 := n0_
       have BK1608 := n1_
       have BK1609 := n2_
       have BK1619 := n3_
       have GW1619 := n4_
       have GE1619 := n5_
       have := geI GE1619
       have NB1608_1619 := n6_
       have NB1619_1608 := n7_
       have NB1609_1619 := n8_
       have NB1619_1609 := n9_
       have HB := n10_
       clear n0_ n1_ n2_ n3_ n4_ n5_ n6_ n7_ n8_ n9_ n10_
       have hHeld : w60.cell? ⟨gb1608, 0, none⟩ = some (.int .i64 a0_0) ∧ w60.cell? ⟨gb1608, 1, none⟩ = some (.slice A0_1 l0_1.length c0_1) ∧ w60.cell? ⟨gb1608, 2, none⟩ = some (.slice A0_2 l0_2.length c0_2) := hS_
       refine norm_ (a' := ?_) ?_ ?_
       rotate_left
       ·simp only [putAll, Act.put, ls, lz, ln]
        rfl
       refine on_ 7 (some 21) (bl 14 4351) HT_ (fun K hK => ?_)
       refine gS Try.func59 #[.agg #[.int .i64 a0_0, .slice A0_1 l0_1.length c0_1, .slice A0_2 l0_2.length c0_2]] ?_
       with_reducible refine (impl_Jacobi_size.calls a0_0 _ _ l0_1 _ _ l0_2 t1615 _ ?side1 ?side2 ?side3 ?side4 A6.out).mono ?_
       (case side1 => exact uC ((Kd.C_below HR0_1.out HB.out)))
       (case side2 => exact HC0_1.out)
       (case side3 => exact uC ((Kd.C_below HR0_2.out HB.out)))
       (case side4 => exact HC0_2.out)
       rintro e w61 ⟨rfl, hb⟩
       refine ⟨_, rfl, ?_⟩
       replace HO1614 := xR HO1614 hb
       replace BK1608 := xB BK1608 hb
       replace BK1609 := xB BK1609 hb
       replace BK1619 := xB BK1619 hb
       replace HB := xH HB hb
       (try clear hb); (try clear hb2); (try clear hk); (try clear hi)
       refine hK.out _ _ ⟨bcu BK1608 0, bcu BK1608 1, bcu BK1608 2⟩ (fun hHeld => ?_)
       clear hK K
       refine no_ 21 ?_
       obtain ⟨Aoz, coz, eoz⟩ := Kd.R_slice HO1614.out
       subst eoz
       obtain ⟨adz, Az, cz, ez, hxz, hlz, hiz⟩ := at_L1 (Kd.R_reads' HO1614.out).2.2 t1615 CZ1.out CZ2.out
       cases ez
       have HEZ := zA (R_elemA HO1614.out t1615 CZ1.out CZ2.out hxz)
       rw [HTZ.out] at HEZ hxz
       have pz := eq_true CZ1.out
       have qz := eq_true CZ2.out
       refine pu_ 8 22 (bl 14 4607) HT_ ?_
       refine lo_ 9 23 (bl 14 5119) HT_ hHeld ?_
       have HO1614 := HEZ
       exact norm_ (by first | (simp only [putAll, Act.put, ls, lz, ln]; done) | (simp only [putAll, Act.put, ls, lz, ln]; rfl)) (hJ3_5_7_12 (.tuple #[.slice (some adz) T1612.length coz, .pointer (some (adz.add t1615.toNat)), .slice Az t1612.length cz], gb1619) _ ⟨hHeld, (uR HO1614.out), (uB BK1608.out), (uB BK1609.out), (uB BK1619.out), GW1619.out, GE1619.out, NB1608_1619.out, NB1619_1608.out, NB1609_1619.out, NB1619_1609.out, (uH HB.out)⟩)
     ·skip
      rintro vpk w60 ⟨hS_, h0_, h1_, h2_, h3_⟩
      obtain ⟨vz0, hz0⟩ : ∃ v_, prj vpk 0 = v_ := ⟨_, rfl⟩
      obtain ⟨vz1, hz1⟩ : ∃ v_, prj vpk 1 = v_ := ⟨_, rfl⟩
      obtain ⟨v1613, hz2⟩ : ∃ v_, prj vpk 2 = v_ := ⟨_, rfl⟩
      (try rw [hz2] at h0_)
      (try rw [hz2] at h1_)
      have n0_ : Aside0 (Kd.R (Kd.int .i64) 2 w60 w.heap.size (fun _ => True) v1613 t1612) := ⟨h0_⟩
      have n1_ : Aside0 (w60.heap[gb1608]? = some (.cells #[.int .i64 a0_0, .slice A0_1 l0_1.length c0_1, .slice A0_2 l0_2.length c0_2] 26 (0, 0))) := ⟨h1_⟩
      have n2_ : Aside0 (w60.heap[gb1609]? = some (.cells #[.int .i64 0, .slice none 0 0, .slice none 0 0] 37 (0, 0))) := ⟨h2_⟩
      have n3_ : Aside0 (Below w.heap.size w w60) := ⟨h3_⟩
      clear BK1608 BK1609 HB
      clear h0_ h1_ h2_ h3_
      have HO1614 := n0_
      have BK1608 := n1_
      have BK1609 := n2_
      have HB := n3_
      clear n0_ n1_ n2_ n3_
      have hHeld : w60.cell? ⟨gb1608, 0, none⟩ = some (.int .i64 a0_0) ∧ w60.cell? ⟨gb1608, 1, none⟩ = some (.slice A0_1 l0_1.length c0_1) ∧ w60.cell? ⟨gb1608, 2, none⟩ = some (.slice A0_2 l0_2.length c0_2) := hS_
      obtain ⟨Ao61, co61, eo61⟩ := Kd.R_slice HO1614.out
      (first | subst eo61 | (injection eo61 with f1_ f2_ f3_; have f4_ := f1_.symm; have f5_ := f3_.symm; clear f1_ f2_ f3_; subst f4_; subst f5_))
      refine norm_ (a' := ?_) ?_ ?_
      rotate_left
      ·simp only [putAll, Act.put, ls, lz, ln]
       rfl
      (try rw [hz0])
      (try rw [hz1])
      (try rw [hz2])
      refine two_ (i := 10) (j := 12) (Ni := some 24) (Nj := some 5) (bl 14 2047) (bl 14 5119) rfl rfl rfl rfl (two_of HT_.out (by kernel_rfl)) (by decide) (by decide) (fun K hK => ?_) (fun K hK => ?_)
      ·skip
       refine gS Try.func80 #[.int .i64 t1611, .slice Ao61 t1612.length co61] ?_
       with_reducible refine (impl_field_roots.calls k t1611 _ _ t1612 t1616 _ ?side1 ?side2 A7.out).mono ?_
       (case side1 => exact uC ((Kd.R_reads' HO1614.out).2.2))
       (case side2 => exact (Kd.R_reads' HO1614.out).2.1)
       rintro e w62 ⟨v1617, rfl, ho0, hb⟩
       refine ⟨_, rfl, ?_⟩
       have HO1618 := zA (Kd.R_lower (Kd.R_new' ho0 (Kd.R_lt (uR HO1614.out))) (below_size (uH HB.out)))
       replace HO1614 := zA (Kd.R_elder' (uR HO1614.out) (Kd.R_base ho0) hb)
       replace BK1608 := xB BK1608 hb
       replace BK1609 := xB BK1609 hb
       replace HB := xH HB hb
       (try clear hb); (try clear hb2); (try clear hk); (try clear hi); (try clear ho0)
       obtain ⟨Ao63, co63, eo63⟩ := Kd.R_slice HO1618.out
       (first | subst eo63 | (injection eo63 with f1_ f2_ f3_; have f4_ := f1_.symm; have f5_ := f3_.symm; clear f1_ f2_ f3_; subst f4_; subst f5_))
       refine hK.out _ _ ⟨bcu BK1608 0, bcu BK1608 1, bcu BK1608 2⟩ (fun hHeld => ?_)
       clear hK K
       refine no_ 24 ?_
       refine pu_ 11 25 (bl 14 4095) HT_ ?_
       exact norm_ (by first | (simp only [putAll, Act.put, ls, lz, ln]; done) | (simp only [putAll, Act.put, ls, lz, ln]; rfl)) (hJ3_5_7_10 (.tuple #[vz0, vz1, .slice Ao61 t1612.length co61], .slice Ao63 t1616.length co63) _ ⟨hHeld, (uR (Kd.R_mono HO1614.out (fun _ hk => hk.2))), (uR (Kd.R_mono HO1618.out (fun _ hk => hk.2))), (uB BK1608.out), (uB BK1609.out), (uH HB.out)⟩)
      ·skip
       refine box_step ?hg (N := 5) ?hd (cs := #[.int .i64 0, .slice none 0 0, .slice none 0 0]) (t := 37) ?hr ?_; (case hd => rfl); (case hg => rfl); (case hr => first | (go_simp; done) | (go_simp; rfl))
       intro gb1619 hg w61 hbox hb
       replace HO1614 := xR HO1614 hb
       have BK1619 := zA (hbox)
       have GW1619 := gq HB hg
       have GE1619 := gq HB hg
       replace HB := xH HB hb
       have NB1608_1619 := zA ((by rw [hg]; exact neL BK1608 : gb1608 ≠ gb1619))
       have NB1619_1608 := zA ((by rw [hg]; exact neG BK1608 : gb1619 ≠ gb1608))
       replace BK1608 := xB BK1608 hb
       have NB1609_1619 := zA ((by rw [hg]; exact neL BK1609 : gb1609 ≠ gb1619))
       have NB1619_1609 := zA ((by rw [hg]; exact neG BK1609 : gb1619 ≠ gb1609))
       replace BK1609 := xB BK1609 hb
       have := geI GE1619
       clear hb hbox hg
       refine hK.out _ _ ⟨bcu BK1608 0, bcu BK1608 1, bcu BK1608 2⟩ (fun hHeld => ?_)
       clear hK K
       refine no_ 5 ?_
       exact norm_ (by first | (simp only [putAll, Act.put, ls, lz, ln]; done) | (simp only [putAll, Act.put, ls, lz, ln]; rfl)) (hJ3_5_7_12 (.tuple #[vz0, vz1, .slice Ao61 t1612.length co61], gb1619) _ ⟨hHeld, (uR HO1614.out), (uB BK1608.out), (uB BK1609.out), (uB BK1619.out), GW1619.out, GE1619.out, NB1608_1619.out, NB1619_1608.out, NB1609_1619.out, NB1619_1609.out, (uH HB.out)⟩)
    ·skip
     rintro ⟨vpk, gb1619⟩ w61 ⟨hS_, h0_, h1_, h2_, h3_, h4_, h5_, h6_, h7_, h8_, h9_, h10_⟩
     obtain ⟨vz0, hz0⟩ : ∃ v_, prj vpk 0 = v_ := ⟨_, rfl⟩
     obtain ⟨vz1, hz1⟩ : ∃ v_, prj vpk 1 = v_ := ⟨_, rfl⟩
     obtain ⟨v1613, hz2⟩ : ∃ v_, prj vpk 2 = v_ := ⟨_, rfl⟩
     (try rw [hz2] at h0_)
     (try rw [hz2] at h1_)
     have n0_ : Aside0 (Kd.R (Kd.int .i64) 2 w61 w.heap.size (fun _ => True) v1613 t1612) := ⟨h0_⟩
     have n1_ : Aside0 (w61.heap[gb1608]? = some (.cells #[.int .i64 a0_0, .slice A0_1 l0_1.length c0_1, .slice A0_2 l0_2.length c0_2] 26 (0, 0))) := ⟨h1_⟩
     have n2_ : Aside0 (w61.heap[gb1609]? = some (.cells #[.int .i64 0, .slice none 0 0, .slice none 0 0] 37 (0, 0))) := ⟨h2_⟩
     have n3_ : Aside0 (w61.heap[gb1619]? = some (.cells #[.int .i64 0, .slice none 0 0, .slice none 0 0] 37 (0, 0))) := ⟨h3_⟩
     have n4_ : Aside0 (w.heap.size ≤ gb1619) := ⟨h4_⟩
     have n5_ : Aside0 (w.heap.size ≤ gb1619) := ⟨h5_⟩
     have n6_ : Aside0 (gb1608 ≠ gb1619) := ⟨h6_⟩
     have n7_ : Aside0 (gb1619 ≠ gb1608) := ⟨h7_⟩
     have n8_ : Aside0 (gb1609 ≠ gb1619) := ⟨h8_⟩
     have n9_ : Aside0 (gb1619 ≠ gb1609) := ⟨h9_⟩
     have n10_ : Aside0 (Below w.heap.size w w61) := ⟨h10_⟩
     clear BK1608 BK1609 HB
     clear h0_ h1_ h2_ h3_ h4_ h5_ h6_ h7_ h8_ h9_ h10_
     have HO1614 := n0_
     have BK1608 := n1_
     have BK1609 := n2_
     have BK1619 := n3_
     have GW1619 := n4_
     have GE1619 := n5_
     have := geI GE1619
     have NB1608_1619 := n6_
     have NB1619_1608 := n7_
     have NB1609_1619 := n8_
     have NB1619_1609 := n9_
     have HB := n10_
     clear n0_ n1_ n2_ n3_ n4_ n5_ n6_ n7_ n8_ n9_ n10_
     have hHeld : w61.cell? ⟨gb1608, 0, none⟩ = some (.int .i64 a0_0) ∧ w61.cell? ⟨gb1608, 1, none⟩ = some (.slice A0_1 l0_1.length c0_1) ∧ w61.cell? ⟨gb1608, 2, none⟩ = some (.slice A0_2 l0_2.length c0_2) := hS_
     obtain ⟨Ao62, co62, eo62⟩ := Kd.R_slice HO1614.out
     (first | subst eo62 | (injection eo62 with f1_ f2_ f3_; have f4_ := f1_.symm; have f5_ := f3_.symm; clear f1_ f2_ f3_; subst f4_; subst f5_))
     refine norm_ (a' := ?_) ?_ ?_
     rotate_left
     ·simp only [putAll, Act.put, ls, lz, ln]
      rfl
     (try rw [hz0])
     (try rw [hz1])
     (try rw [hz2])
     refine on_ 10 (some 24) (bl 14 6143) HT_ (fun K hK => ?_)
     refine gS Try.func80 #[.int .i64 t1611, .slice Ao62 t1612.length co62] ?_
     with_reducible refine (impl_field_roots.calls k t1611 _ _ t1612 t1616 _ ?side1 ?side2 A7.out).mono ?_
     (case side1 => exact uC ((Kd.R_reads' HO1614.out).2.2))
     (case side2 => exact (Kd.R_reads' HO1614.out).2.1)
     rintro e w63 ⟨v1617, rfl, ho0, hb⟩
     refine ⟨_, rfl, ?_⟩
     have HO1618 := zA (Kd.R_lower (Kd.R_new' ho0 (Kd.R_lt (uR HO1614.out))) (below_size (uH HB.out)))
     replace HO1614 := zA (Kd.R_elder' (uR HO1614.out) (Kd.R_base ho0) hb)
     replace BK1608 := xB BK1608 hb
     replace BK1609 := xB BK1609 hb
     replace BK1619 := xB BK1619 hb
     replace HB := xH HB hb
     (try clear hb); (try clear hb2); (try clear hk); (try clear hi); (try clear ho0)
     obtain ⟨Ao64, co64, eo64⟩ := Kd.R_slice HO1618.out
     (first | subst eo64 | (injection eo64 with f1_ f2_ f3_; have f4_ := f1_.symm; have f5_ := f3_.symm; clear f1_ f2_ f3_; subst f4_; subst f5_))
     refine hK.out _ _ ⟨bcu BK1608 0, bcu BK1608 1, bcu BK1608 2⟩ (fun hHeld => ?_)
     clear hK K
     refine no_ 24 ?_
     refine pu_ 11 25 (bl 14 8191) HT_ ?_
     exact norm_ (by first | (simp only [putAll, Act.put, ls, lz, ln]; done) | (simp only [putAll, Act.put, ls, lz, ln]; rfl)) (hJ3_5_7_10_12 (.tuple #[vz0, vz1, .slice Ao62 t1612.length co62], .slice Ao64 t1616.length co64, gb1619) _ ⟨hHeld, (uR (Kd.R_mono HO1614.out (fun _ hk => hk.2))), (uR (Kd.R_mono HO1618.out (fun _ hk => hk.2))), (uB BK1608.out), (uB BK1609.out), (uB BK1619.out), GW1619.out, GE1619.out, NB1608_1619.out, NB1619_1608.out, NB1609_1619.out, NB1619_1609.out, (uH HB.out)⟩)
   ·skip
    rintro ⟨vpk, v1617⟩ w63 ⟨hS_, h0_, h1_, h2_, h3_, h4_⟩
    obtain ⟨vz0, hz0⟩ : ∃ v_, prj vpk 0 = v_ := ⟨_, rfl⟩
    obtain ⟨vz1, hz1⟩ : ∃ v_, prj vpk 1 = v_ := ⟨_, rfl⟩
    obtain ⟨v1613, hz2⟩ : ∃ v_, prj vpk 2 = v_ := ⟨_, rfl⟩
    (try rw [hz2] at h0_)
    (try rw [hz2] at h1_)
    have n0_ : Aside0 (Kd.R (Kd.int .i64) 2 w63 w.heap.size (fun k_ => some k_ ≠ (v1617 : Value).ownBlock) v1613 t1612) := ⟨h0_⟩
    have n1_ : Aside0 (Kd.R (Kd.int .i64) 2 w63 w.heap.size (fun k_ => some k_ ≠ (v1613 : Value).ownBlock) v1617 t1616) := ⟨h1_⟩
    have n2_ : Aside0 (w63.heap[gb1608]? = some (.cells #[.int .i64 a0_0, .slice A0_1 l0_1.length c0_1, .slice A0_2 l0_2.length c0_2] 26 (0, 0))) := ⟨h2_⟩
    have n3_ : Aside0 (w63.heap[gb1609]? = some (.cells #[.int .i64 0, .slice none 0 0, .slice none 0 0] 37 (0, 0))) := ⟨h3_⟩
    have n4_ : Aside0 (Below w.heap.size w w63) := ⟨h4_⟩
    clear BK1608 BK1609 HB
    clear h0_ h1_ h2_ h3_ h4_
    have HO1614 := n0_
    have HO1618 := n1_
    have BK1608 := n2_
    have BK1609 := n3_
    have HB := n4_
    clear n0_ n1_ n2_ n3_ n4_
    have hHeld : w63.cell? ⟨gb1608, 0, none⟩ = some (.int .i64 a0_0) ∧ w63.cell? ⟨gb1608, 1, none⟩ = some (.slice A0_1 l0_1.length c0_1) ∧ w63.cell? ⟨gb1608, 2, none⟩ = some (.slice A0_2 l0_2.length c0_2) := hS_
    obtain ⟨Ao64, co64, eo64⟩ := Kd.R_slice HO1618.out
    (first | subst eo64 | (injection eo64 with f1_ f2_ f3_; have f4_ := f1_.symm; have f5_ := f3_.symm; clear f1_ f2_ f3_; subst f4_; subst f5_))
    refine norm_ (a' := ?_) ?_ ?_
    rotate_left
    ·simp only [putAll, Act.put, ls, lz, ln]
     rfl
    (try rw [hz0])
    (try rw [hz1])
    (try rw [hz2])
    refine on_ 12 (some 5) (bl 14 8191) HT_ (fun K hK => ?_)
    refine box_step ?hg (N := 5) ?hd (cs := #[.int .i64 0, .slice none 0 0, .slice none 0 0]) (t := 37) ?hr ?_; (case hd => rfl); (case hg => rfl); (case hr => first | (go_simp; done) | (go_simp; rfl))
    intro gb1619 hg w65 hbox hb
    replace HO1614 := xR HO1614 hb
    replace HO1618 := xR HO1618 hb
    have BK1619 := zA (hbox)
    have GW1619 := gq HB hg
    have GE1619 := gq HB hg
    replace HB := xH HB hb
    have NB1608_1619 := zA ((by rw [hg]; exact neL BK1608 : gb1608 ≠ gb1619))
    have NB1619_1608 := zA ((by rw [hg]; exact neG BK1608 : gb1619 ≠ gb1608))
    replace BK1608 := xB BK1608 hb
    have NB1609_1619 := zA ((by rw [hg]; exact neL BK1609 : gb1609 ≠ gb1619))
    have NB1619_1609 := zA ((by rw [hg]; exact neG BK1609 : gb1619 ≠ gb1609))
    replace BK1609 := xB BK1609 hb
    have := geI GE1619
    clear hb hbox hg
    refine hK.out _ _ ⟨bcu BK1608 0, bcu BK1608 1, bcu BK1608 2⟩ (fun hHeld => ?_)
    clear hK K
    refine no_ 5 ?_
    exact norm_ (by first | (simp only [putAll, Act.put, ls, lz, ln]; done) | (simp only [putAll, Act.put, ls, lz, ln]; rfl)) (hJ3_5_7_10_12 (.tuple #[vz0, vz1, v1613], .slice Ao64 t1616.length co64, gb1619) _ ⟨hHeld, (uR HO1614.out), (uR HO1618.out), (uB BK1608.out), (uB BK1609.out), (uB BK1619.out), GW1619.out, GE1619.out, NB1608_1619.out, NB1619_1608.out, NB1609_1619.out, NB1619_1609.out, (uH HB.out)⟩)
  rintro ⟨vpk, v1617, gb1619⟩ w64 ⟨hS_, h0_, h1_, h2_, h3_, h4_, h5_, h6_, h7_, h8_, h9_, h10_, h11_⟩
  obtain ⟨vz0, hz0⟩ : ∃ v_, prj vpk 0 = v_ := ⟨_, rfl⟩
  obtain ⟨vz1, hz1⟩ : ∃ v_, prj vpk 1 = v_ := ⟨_, rfl⟩
  obtain ⟨v1613, hz2⟩ : ∃ v_, prj vpk 2 = v_ := ⟨_, rfl⟩
  (try rw [hz2] at h0_)
  (try rw [hz2] at h1_)
  have n0_ : Aside0 (Kd.R (Kd.int .i64) 2 w64 w.heap.size (fun k_ => some k_ ≠ (v1617 : Value).ownBlock) v1613 t1612) := ⟨h0_⟩
  have n1_ : Aside0 (Kd.R (Kd.int .i64) 2 w64 w.heap.size (fun k_ => some k_ ≠ (v1613 : Value).ownBlock) v1617 t1616) := ⟨h1_⟩
  have n2_ : Aside0 (w64.heap[gb1608]? = some (.cells #[.int .i64 a0_0, .slice A0_1 l0_1.length c0_1, .slice A0_2 l0_2.length c0_2] 26 (0, 0))) := ⟨h2_⟩
  have n3_ : Aside0 (w64.heap[gb1609]? = some (.cells #[.int .i64 0, .slice none 0 0, .slice none 0 0] 37 (0, 0))) := ⟨h3_⟩
  have n4_ : Aside0 (w64.heap[gb1619]? = some (.cells #[.int .i64 0, .slice none 0 0, .slice none 0 0] 37 (0, 0))) := ⟨h4_⟩
  have n5_ : Aside0 (w.heap.size ≤ gb1619) := ⟨h5_⟩
  have n6_ : Aside0 (w.heap.size ≤ gb1619) := ⟨h6_⟩
  have n7_ : Aside0 (gb1608 ≠ gb1619) := ⟨h7_⟩
  have n8_ : Aside0 (gb1619 ≠ gb1608) := ⟨h8_⟩
  have n9_ : Aside0 (gb1609 ≠ gb1619) := ⟨h9_⟩
  have n10_ : Aside0 (gb1619 ≠ gb1609) := ⟨h10_⟩
  have n11_ : Aside0 (Below w.heap.size w w64) := ⟨h11_⟩
  clear BK1608 BK1609 HB
  clear h0_ h1_ h2_ h3_ h4_ h5_ h6_ h7_ h8_ h9_ h10_ h11_
  have HO1614 := n0_
  have HO1618 := n1_
  have BK1608 := n2_
  have BK1609 := n3_
  have BK1619 := n4_
  have GW1619 := n5_
  have GE1619 := n6_
  have := geI GE1619
  have NB1608_1619 := n7_
  have NB1619_1608 := n8_
  have NB1609_1619 := n9_
  have NB1619_1609 := n10_
  have HB := n11_
  clear n0_ n1_ n2_ n3_ n4_ n5_ n6_ n7_ n8_ n9_ n10_ n11_
  have hHeld : w64.cell? ⟨gb1608, 0, none⟩ = some (.int .i64 a0_0) ∧ w64.cell? ⟨gb1608, 1, none⟩ = some (.slice A0_1 l0_1.length c0_1) ∧ w64.cell? ⟨gb1608, 2, none⟩ = some (.slice A0_2 l0_2.length c0_2) := hS_
  obtain ⟨Ao65, co65, eo65⟩ := Kd.R_slice HO1618.out
  (first | subst eo65 | (injection eo65 with f1_ f2_ f3_; have f4_ := f1_.symm; have f5_ := f3_.symm; clear f1_ f2_ f3_; subst f4_; subst f5_))
  refine norm_ (a' := ?_) ?_ ?_
  rotate_left
  ·simp only [putAll, Act.put, ls, lz, ln]
   rfl
  (try rw [hz0])
  (try rw [hz1])
  (try rw [hz2])
  refine on_ 13 (none) (bl 14 16383) HT_ (fun K hK => ?_)
  have hs66 : w64.cell? ⟨gb1619, 0, none⟩ = some (.int .i64 0) := (blk_cell BK1619.out 0).trans rfl
  have hfs66 := bf BK1619 0
  have hns66_0 := NB1608_1619.out; have hns66_1 := NB1609_1619.out; have hms66_0 := NB1619_1608.out; have hms66_1 := NB1619_1609.out
  have hs67 : w64.cell? ⟨gb1619, 1, none⟩ = some (.slice none 0 0) := (blk_cell BK1619.out 1).trans rfl
  have hfs67 := bf BK1619 1
  have hns67_0 := NB1608_1619.out; have hns67_1 := NB1609_1619.out; have hms67_0 := NB1619_1608.out; have hms67_1 := NB1619_1609.out
  have hs68 : w64.cell? ⟨gb1619, 2, none⟩ = some (.slice none 0 0) := (blk_cell BK1619.out 2).trans rfl
  have hfs68 := bf BK1619 2
  have hns68_0 := NB1608_1619.out; have hns68_1 := NB1609_1619.out; have hms68_0 := NB1619_1608.out; have hms68_1 := NB1619_1609.out
  refine skip_ (w1 := ?_) (by rfl) rfl ?_ ?_
  rotate_left
  ·go_simp
   rfl
  refine hK.out _ _ ⟨((cell_far (p := ⟨gb1619, _, none⟩) NB1608_1619.out _).trans (((cell_far (p := ⟨gb1619, _, none⟩) NB1608_1619.out _).trans (((cell_far (p := ⟨gb1619, _, none⟩) NB1608_1619.out _).trans (hHeld.1)))))), ((cell_far (p := ⟨gb1619, _, none⟩) NB1608_1619.out _).trans (((cell_far (p := ⟨gb1619, _, none⟩) NB1608_1619.out _).trans (((cell_far (p := ⟨gb1619, _, none⟩) NB1608_1619.out _).trans (hHeld.2.1)))))), ((cell_far (p := ⟨gb1619, _, none⟩) NB1608_1619.out _).trans (((cell_far (p := ⟨gb1619, _, none⟩) NB1608_1619.out _).trans (((cell_far (p := ⟨gb1619, _, none⟩) NB1608_1619.out _).trans (hHeld.2.2))))))⟩ (fun hHeld => ?_)
  clear hK K
  refine done_ (done_of HT_.out (by kernel_rfl)) ?_
  try go_wp2
  have n0_ : Aside0 (Kd.R (Kd.int .i64) 2 (((w64.setCell ⟨gb1619, 0, none⟩ (.int .i64 a0_0)).setCell ⟨gb1619, 1, none⟩ (.slice Ao65 t1616.length co65)).setCell ⟨gb1619, 2, none⟩ (.slice none 0 0)) w.heap.size (fun k_ => ax k_ (.slice Ao65 t1616.length co65)) v1613 t1612) := ⟨uR (rf3 HO1614 BK1619 (by decide) (.int .i64 a0_0) (.slice Ao65 t1616.length co65) (.slice none 0 0))⟩
  have n1_ : Aside0 (Kd.R (Kd.int .i64) 2 (((w64.setCell ⟨gb1619, 0, none⟩ (.int .i64 a0_0)).setCell ⟨gb1619, 1, none⟩ (.slice Ao65 t1616.length co65)).setCell ⟨gb1619, 2, none⟩ (.slice none 0 0)) w.heap.size (fun k_ => some k_ ≠ (v1613 : Value).ownBlock) (.slice Ao65 t1616.length co65) t1616) := ⟨uR (rf3 HO1618 BK1619 (by decide) (.int .i64 a0_0) (.slice Ao65 t1616.length co65) (.slice none 0 0))⟩
  have n2_ : Aside0 ((((w64.setCell ⟨gb1619, 0, none⟩ (.int .i64 a0_0)).setCell ⟨gb1619, 1, none⟩ (.slice Ao65 t1616.length co65)).setCell ⟨gb1619, 2, none⟩ (.slice none 0 0)).heap[gb1608]? = some (.cells #[.int .i64 a0_0, .slice A0_1 l0_1.length c0_1, .slice A0_2 l0_2.length c0_2] 26 (0, 0))) := ⟨by (repeat refine up1 ?_); refine blk_far ?_ NB1608_1619.out _; (repeat refine up1 ?_); refine blk_far ?_ NB1608_1619.out _; (repeat refine up1 ?_); refine blk_far ?_ NB1608_1619.out _; (repeat refine up1 ?_); exact BK1608.out⟩
  have n3_ : Aside0 ((((w64.setCell ⟨gb1619, 0, none⟩ (.int .i64 a0_0)).setCell ⟨gb1619, 1, none⟩ (.slice Ao65 t1616.length co65)).setCell ⟨gb1619, 2, none⟩ (.slice none 0 0)).heap[gb1609]? = some (.cells #[.int .i64 0, .slice none 0 0, .slice none 0 0] 37 (0, 0))) := ⟨by (repeat refine up1 ?_); refine blk_far ?_ NB1609_1619.out _; (repeat refine up1 ?_); refine blk_far ?_ NB1609_1619.out _; (repeat refine up1 ?_); refine blk_far ?_ NB1609_1619.out _; (repeat refine up1 ?_); exact BK1609.out⟩
  have n4_ : Aside0 ((((w64.setCell ⟨gb1619, 0, none⟩ (.int .i64 a0_0)).setCell ⟨gb1619, 1, none⟩ (.slice Ao65 t1616.length co65)).setCell ⟨gb1619, 2, none⟩ (.slice none 0 0)).heap[gb1619]? = some (.cells #[.int .i64 a0_0, .slice Ao65 t1616.length co65, .slice none 0 0] 37 (0, 0))) := ⟨by (repeat refine up1 ?_); refine blk_put (cs := #[.int .i64 a0_0, .slice Ao65 t1616.length co65, .slice none 0 0]) ?_ 2 _ rfl; (repeat refine up1 ?_); refine blk_put (cs := #[.int .i64 a0_0, .slice none 0 0, .slice none 0 0]) ?_ 1 _ rfl; (repeat refine up1 ?_); refine blk_put (cs := #[.int .i64 0, .slice none 0 0, .slice none 0 0]) ?_ 0 _ rfl; (repeat refine up1 ?_); exact BK1619.out⟩
  have n5_ : Aside0 (Below w.heap.size w (((w64.setCell ⟨gb1619, 0, none⟩ (.int .i64 a0_0)).setCell ⟨gb1619, 1, none⟩ (.slice Ao65 t1616.length co65)).setCell ⟨gb1619, 2, none⟩ (.slice none 0 0))) := ⟨uH HB.out⟩
  (try clear HO1614); (try clear HO1618); (try clear BK1608); (try clear BK1609); (try clear BK1619); (try clear HB)
  generalize (((w64.setCell ⟨gb1619, 0, none⟩ (.int .i64 a0_0)).setCell ⟨gb1619, 1, none⟩ (.slice Ao65 t1616.length co65)).setCell ⟨gb1619, 2, none⟩ (.slice none 0 0)) = w69 at n0_ n1_ n2_ n3_ n4_ n5_ ⊢
  have HO1614 := n0_
  have HO1618 := n1_
  have BK1608 := n2_
  have BK1609 := n3_
  have BK1619 := n4_
  have HB := n5_
  clear n0_ n1_ n2_ n3_ n4_ n5_
  replace HO1614 := zA (Kd.R_drew HO1614.out)
  replace HO1618 := zA (Kd.R_drew HO1618.out)
  replace BK1608 := zA (blk_drew BK1608.out)
  replace BK1609 := zA (blk_drew BK1609.out)
  replace BK1619 := zA (blk_drew BK1619.out)
  replace HB := zA (below_drew1 HB.out)
  refine start_ (n := 6) (S := fun w' => w'.cell? ⟨gb1619, 0, none⟩ = some (.int .i64 a0_0) ∧ w'.cell? ⟨gb1619, 1, none⟩ = some (.slice Ao65 t1616.length co65) ∧ w'.cell? ⟨gb1619, 2, none⟩ = some (.slice none 0 0) ∧ w'.cell? ⟨gb1608, 0, none⟩ = some (.int .i64 a0_0) ∧ w'.cell? ⟨gb1608, 1, none⟩ = some (.slice A0_1 l0_1.length c0_1) ∧ w'.cell? ⟨gb1608, 2, none⟩ = some (.slice A0_2 l0_2.length c0_2)) (ds := []) #[false, false, false, false, false, false] (by kernel_rfl) rfl rfl ⟨bcu BK1619 0, bcu BK1619 1, bcu BK1619 2, bcu BK1608 0, bcu BK1608 1, bcu BK1608 2⟩ (fun hHeld => ?_)
  generalize w69.drew = w70 at HO1614 HO1618 BK1608 BK1609 BK1619 HB hHeld ⊢
  refine pure_ (i := 0) (N := some 26) (v := ?_) (a' := ?_) (bl 6 1) rfl rfl (by kernel_rfl) (fun _ _ _ h => h) (Or.inl ⟨by rfl, ?_⟩) ?_ ?_
  rotate_left
  ·intro w'
   go_simp
   with_reducible rfl
  rotate_left
  ·simp only [Act.put, ls, lz, ln, i64_w, i32_w]
   rfl
  refine take_ (i := 1) (N := some 27) (v := ?_) (a' := ?_) (bl 6 3) rfl rfl (by kernel_rfl) (fun _ _ _ h => h) (Or.inl ⟨by rfl, ?_⟩) hHeld ?_ ?_
  rotate_left
  ·rintro w' ⟨s0, s1, s2, s3, s4, s5⟩
   go_simp
   with_reducible rfl
  rotate_left
  ·simp only [Act.put, ls, lz, ln, i64_w, i32_w]
   rfl
  refine take_ (i := 3) (N := some 29) (v := ?_) (a' := ?_) (bl 6 11) rfl rfl (by kernel_rfl) (fun _ _ _ h => h) (Or.inl ⟨by rfl, ?_⟩) hHeld ?_ ?_
  rotate_left
  ·rintro w' ⟨s0, s1, s2, s3, s4, s5⟩
   go_simp
   with_reducible rfl
  rotate_left
  ·simp only [Act.put, ls, lz, ln, i64_w, i32_w]
   rfl
  refine one_ (i := 2) (N := some 28) (bl 6 15) rfl rfl (by kernel_rfl) (by decide) (fun K hK => ?_)
  refine gS Try.func71 #[.slice Ao65 t1616.length co65] ?_
  with_reducible refine (impl_length_int64.calls _ _ t1616 t1620 _ ?side1 ?side2 A8.out).mono ?_
  (case side1 => exact uC ((Kd.R_reads' HO1618.out).2.2))
  (case side2 => exact (Kd.R_reads' HO1618.out).2.1)
  rintro e w' ⟨rfl, ⟨nd, rfl⟩⟩
  refine ⟨_, rfl, ?_⟩
  refine hK.out _ _ ⟨bcu BK1619 0, bcu BK1619 1, bcu BK1619 2, bcu BK1608 0, bcu BK1608 1, bcu BK1608 2⟩ (fun hHeld => ?_)
  clear hK K
  refine no_ 28 ?_
  refine one_ (i := 4) (N := some 30) (bl 6 31) rfl rfl (by kernel_rfl) (by decide) (fun K hK => ?_)
  refine gS Try.func59 #[.agg #[.int .i64 a0_0, .slice A0_1 l0_1.length c0_1, .slice A0_2 l0_2.length c0_2]] ?_
  with_reducible refine (impl_Jacobi_size.calls a0_0 _ _ l0_1 _ _ l0_2 t1621 _ ?side1 ?side2 ?side3 ?side4 A9.out).mono ?_
  (case side1 => repeat (first | exact (Kd.C_below HR0_1.out (uH HB.out)) | (with_reducible refine Kd.C_alloc ?_ _) | (with_reducible refine Kd.C_drewN ?_ _) | (with_reducible refine Kd.C_drew ?_)))
  (case side2 => exact HC0_1.out)
  (case side3 => repeat (first | exact (Kd.C_below HR0_2.out (uH HB.out)) | (with_reducible refine Kd.C_alloc ?_ _) | (with_reducible refine Kd.C_drewN ?_ _) | (with_reducible refine Kd.C_drew ?_)))
  (case side4 => exact HC0_2.out)
  rintro e w71 ⟨rfl, hb⟩
  refine ⟨_, rfl, ?_⟩
  replace HO1614 := xR HO1614 hb
  replace HO1618 := xR HO1618 hb
  replace BK1608 := xB BK1608 hb
  replace BK1609 := xB BK1609 hb
  replace BK1619 := xB BK1619 hb
  replace HB := xH HB hb
  (try clear hb); (try clear hb2); (try clear hk); (try clear hi)
  refine hK.out _ _ ⟨bcu BK1619 0, bcu BK1619 1, bcu BK1619 2, bcu BK1608 0, bcu BK1608 1, bcu BK1608 2⟩ (fun hHeld => ?_)
  clear hK K
  refine no_ 30 ?_
  refine pure_ (i := 5) (N := some 31) (v := ?_) (a' := ?_) (bl 6 63) rfl rfl (by kernel_rfl) (fun _ _ _ h => h) (Or.inl ⟨by rfl, ?_⟩) ?_ ?_
  rotate_left
  ·intro w'
   go_simp
   with_reducible rfl
  rotate_left
  ·simp only [Act.put, ls, lz, ln, i64_w, i32_w]
   rfl
  refine done_ (by kernel_rfl) ?_
  have hnb72 := NB1609_1619.out; have hnc72 := NB1619_1609.out
  have hcz73_0 := bc BK1609 0
  have hcz73_1 := bc BK1609 1
  have hcz73_2 := bc BK1609 2
  have hfz73_0 := bf BK1609 0
  have hfz73_1 := bf BK1609 1
  have hfz73_2 := bf BK1609 2
  try go_wp2
  refine bodyPost_ret (results_ct rfl _ _ gb1609 37 #[.int .i64 0, .slice none 0 0, .slice none 0 0] (0, 0) _ rfl (by (repeat refine up1 ?_); refine blk_put (cs := #[.int .i64 0, .slice none 0 0, .slice none 0 0]) ?_ 2 _ rfl; (repeat refine up1 ?_); refine blk_put (cs := #[.int .i64 0, .slice none 0 0, .slice none 0 0]) ?_ 1 _ rfl; (repeat refine up1 ?_); refine blk_put (cs := #[.int .i64 0, .slice none 0 0, .slice none 0 0]) ?_ 0 _ rfl; (repeat refine up1 ?_); exact BK1609.out) Try.underlying37 rfl (by kernel_rfl)) rfl ?_
  exact ⟨_, _, by first | rfl | (simp [errW_none, errW_some] <;> rfl) | (simp [*, errW_none, errW_some] <;> rfl), by first | exact Kd.R_nil _ _ _ _ _ | exact Kd.N_nil _ _ _ _ _ | exact Kd.V_nil _ _ _ _ _ | exact Kd.Q_nil _ _ _ _ _ | exact Kd.S_nil _ _ _ _ _, by first | exact Kd.R_nil _ _ _ _ _ | exact Kd.N_nil _ _ _ _ _ | exact Kd.V_nil _ _ _ _ _ | exact Kd.Q_nil _ _ _ _ _ | exact Kd.S_nil _ _ _ _ _, uH HB.out⟩
 rw [if_pos c10] at H
 have c10b0 : (t1620 == t1621) = true := beq_iff_eq.mpr c10
 have c10b1 : (t1620 != t1621) = false := bne_eq_false_iff_eq.mpr c10
 clear c10
 have H' := zA H
 clear H
 go_enter Try.func35, Try.ntmps35
 try go_wp2_with (first | ((with_reducible refine gate_dst (N := 1) rfl ?_); refine bx 1 #[.int .i64 a0_0, .slice A0_1 l0_1.length c0_1, .slice A0_2 l0_2.length c0_2] 26 ?_; intro gb1608 hg w11 hbox hb; have BK1608 := zA (hbox); have GW1608 := gq HB hg; have GE1608 := gq HB hg; replace HB := xH HB hb; have := geI GE1608; clear hb hbox hg) | ((with_reducible refine gate_dst (N := 2) rfl ?_); refine bx 2 #[.int .i64 0, .slice none 0 0, .slice none 0 0] 37 ?_; intro gb1609 hg w12 hbox hb; have BK1609 := zA (hbox); have GW1609 := gq HB hg; have GE1609 := gq HB hg; replace HB := xH HB hb; have NB1608_1609 := zA ((by rw [hg]; exact neL BK1608 : gb1608 ≠ gb1609)); have NB1609_1608 := zA ((by rw [hg]; exact neG BK1608 : gb1609 ≠ gb1608)); replace BK1608 := xB BK1608 hb; have := geI GE1609; clear hb hbox hg; have hnb13 := NB1608_1609.out; have hnc13 := NB1609_1608.out; have hcz14_0 := bc BK1608 0; have hcz14_1 := bc BK1608 1; have hcz14_2 := bc BK1608 2; have hfz14_0 := bf BK1608 0; have hfz14_1 := bf BK1608 1; have hfz14_2 := bf BK1608 2) | ((with_reducible refine gate_callee (f := 57) rfl ?_); refine gL (some 9) Try.func57 #[.agg #[.int .i64 a0_0, .slice A0_1 l0_1.length c0_1, .slice A0_2 l0_2.length c0_2], .bool true] ?_; (with_reducible refine (impl_jacobiCode.calls k a0_0 _ _ l0_1 _ _ l0_2 true t1610 _ ?side1 ?side2 ?side3 ?side4 A2.out).mono ?_); (case side1 => exact uC ((Kd.C_below HR0_1.out HB.out))); (case side2 => exact HC0_1.out); (case side3 => exact uC ((Kd.C_below HR0_2.out HB.out))); (case side4 => exact HC0_2.out); rintro e w15 ⟨rfl, hb⟩; refine ⟨_, rfl, ?_⟩; replace BK1608 := xB BK1608 hb; replace BK1609 := xB BK1609 hb; replace HB := xH HB hb; (try clear hb); (try clear hb2); (try clear hk); (try clear hi)))
 replace BK1608 := zA (blk_drew BK1608.out)
 replace BK1609 := zA (blk_drew BK1609.out)
 replace HB := zA (below_drew1 HB.out)
 refine start_ (n := 14) (S := fun w' => w'.cell? ⟨gb1608, 0, none⟩ = some (.int .i64 a0_0) ∧ w'.cell? ⟨gb1608, 1, none⟩ = some (.slice A0_1 l0_1.length c0_1) ∧ w'.cell? ⟨gb1608, 2, none⟩ = some (.slice A0_2 l0_2.length c0_2)) (ds := []) #[false, false, false, false, false, false, false, false, false, false, false, false, false, false] (by kernel_rfl) rfl rfl ⟨bcu BK1608 0, bcu BK1608 1, bcu BK1608 2⟩ (fun hHeld => ?_); refine with_tabW impl_GaussRule.tab4 impl_GaussRule.bits4 (fun HT_ HW_ => ?_)
 generalize w15.drew = w16 at BK1608 BK1609 HB hHeld ⊢
 refine pu_ 0 14 (bl 14 1) HT_ ?_
 refine ta_ 1 15 (bl 14 3) HT_ HW_ hHeld ?_
 refine ta_ 2 16 (bl 14 7) HT_ HW_ hHeld ?_
 refine ta_ 4 18 (bl 14 23) HT_ HW_ hHeld ?_
 refine ta_ 6 20 (bl 14 87) HT_ HW_ hHeld ?_
 refine join_ (σ := Value × Value × Nat) 1 (bl 14 8191) (fun s_ => [(17, .int .i64 t1611), (19, prj s_.1 0), (21, .int .i64 t1615), (24, s_.2.1), (5, .pointer (some ⟨s_.2.2, 0, none⟩)), (22, prj s_.1 1), (23, prj s_.1 2), (25, .agg #[.int .i64 a0_0, s_.2.1, .slice none 0 0])]) (fun s_ w' => (w'.cell? ⟨gb1608, 0, none⟩ = some (.int .i64 a0_0) ∧ w'.cell? ⟨gb1608, 1, none⟩ = some (.slice A0_1 l0_1.length c0_1) ∧ w'.cell? ⟨gb1608, 2, none⟩ = some (.slice A0_2 l0_2.length c0_2)) ∧ (Kd.R (Kd.int .i64) 2 w' w.heap.size (fun k_ => some k_ ≠ (s_.2.1 : Value).ownBlock) (prj s_.1 2) t1612) ∧ (Kd.R (Kd.int .i64) 2 w' w.heap.size (fun k_ => some k_ ≠ (prj s_.1 2 : Value).ownBlock) s_.2.1 t1616) ∧ (w'.heap[gb1608]? = some (.cells #[.int .i64 a0_0, .slice A0_1 l0_1.length c0_1, .slice A0_2 l0_2.length c0_2] 26 (0, 0))) ∧ (w'.heap[gb1609]? = some (.cells #[.int .i64 0, .slice none 0 0, .slice none 0 0] 37 (0, 0))) ∧ (w'.heap[s_.2.2]? = some (.cells #[.int .i64 0, .slice none 0 0, .slice none 0 0] 37 (0, 0))) ∧ (w.heap.size ≤ s_.2.2) ∧ (w.heap.size ≤ s_.2.2) ∧ (gb1608 ≠ s_.2.2) ∧ (s_.2.2 ≠ gb1608) ∧ (gb1609 ≠ s_.2.2) ∧ (s_.2.2 ≠ gb1609) ∧ (Below w.heap.size w w')) ?_ ?_
 rotate_left
 ·intro hJ3_5_7_10_12
  refine join_ (σ := Value × Value) 2 (bl 14 4095) (fun s_ => [(17, .int .i64 t1611), (19, prj s_.1 0), (21, .int .i64 t1615), (24, s_.2), (22, prj s_.1 1), (23, prj s_.1 2), (25, .agg #[.int .i64 a0_0, s_.2, .slice none 0 0])]) (fun s_ w' => (w'.cell? ⟨gb1608, 0, none⟩ = some (.int .i64 a0_0) ∧ w'.cell? ⟨gb1608, 1, none⟩ = some (.slice A0_1 l0_1.length c0_1) ∧ w'.cell? ⟨gb1608, 2, none⟩ = some (.slice A0_2 l0_2.length c0_2)) ∧ (Kd.R (Kd.int .i64) 2 w' w.heap.size (fun k_ => some k_ ≠ (s_.2 : Value).ownBlock) (prj s_.1 2) t1612) ∧ (Kd.R (Kd.int .i64) 2 w' w.heap.size (fun k_ => some k_ ≠ (prj s_.1 2 : Value).ownBlock) s_.2 t1616) ∧ (w'.heap[gb1608]? = some (.cells #[.int .i64 a0_0, .slice A0_1 l0_1.length c0_1, .slice A0_2 l0_2.length c0_2] 26 (0, 0))) ∧ (w'.heap[gb1609]? = some (.cells #[.int .i64 0, .slice none 0 0, .slice none 0 0] 37 (0, 0))) ∧ (Below w.heap.size w w')) ?_ ?_
  rotate_left
  ·intro hJ3_5_7_10
   refine join_ (σ := Value × Nat) 3 (bl 14 5119) (fun s_ => [(17, .int .i64 t1611), (19, prj s_.1 0), (21, .int .i64 t1615), (5, .pointer (some ⟨s_.2, 0, none⟩)), (22, prj s_.1 1), (23, prj s_.1 2)]) (fun s_ w' => (w'.cell? ⟨gb1608, 0, none⟩ = some (.int .i64 a0_0) ∧ w'.cell? ⟨gb1608, 1, none⟩ = some (.slice A0_1 l0_1.length c0_1) ∧ w'.cell? ⟨gb1608, 2, none⟩ = some (.slice A0_2 l0_2.length c0_2)) ∧ (Kd.R (Kd.int .i64) 2 w' w.heap.size (fun _ => True) (prj s_.1 2) t1612) ∧ (w'.heap[gb1608]? = some (.cells #[.int .i64 a0_0, .slice A0_1 l0_1.length c0_1, .slice A0_2 l0_2.length c0_2] 26 (0, 0))) ∧ (w'.heap[gb1609]? = some (.cells #[.int .i64 0, .slice none 0 0, .slice none 0 0] 37 (0, 0))) ∧ (w'.heap[s_.2]? = some (.cells #[.int .i64 0, .slice none 0 0, .slice none 0 0] 37 (0, 0))) ∧ (w.heap.size ≤ s_.2) ∧ (w.heap.size ≤ s_.2) ∧ (gb1608 ≠ s_.2) ∧ (s_.2 ≠ gb1608) ∧ (gb1609 ≠ s_.2) ∧ (s_.2 ≠ gb1609) ∧ (Below w.heap.size w w')) ?_ ?_
   rotate_left
   ·intro hJ3_5_7_12
    refine join_ (σ := Value) 4 (bl 14 1023) (fun s_ => [(17, .int .i64 t1611), (19, prj s_ 0), (21, .int .i64 t1615), (22, prj s_ 1), (23, prj s_ 2)]) (fun s_ w' => (w'.cell? ⟨gb1608, 0, none⟩ = some (.int .i64 a0_0) ∧ w'.cell? ⟨gb1608, 1, none⟩ = some (.slice A0_1 l0_1.length c0_1) ∧ w'.cell? ⟨gb1608, 2, none⟩ = some (.slice A0_2 l0_2.length c0_2)) ∧ (Kd.R (Kd.int .i64) 2 w' w.heap.size (fun _ => True) (prj s_ 2) t1612) ∧ (w'.heap[gb1608]? = some (.cells #[.int .i64 a0_0, .slice A0_1 l0_1.length c0_1, .slice A0_2 l0_2.length c0_2] 26 (0, 0))) ∧ (w'.heap[gb1609]? = some (.cells #[.int .i64 0, .slice none 0 0, .slice none 0 0] 37 (0, 0))) ∧ (Below w.heap.size w w')) ?_ ?_
    rotate_left
    ·intro hJ3_5_7
     refine join_ (σ := Value × Nat) 6 (bl 14 4223) (fun s_ => [(17, .int .i64 t1611), (19, s_.1), (5, .pointer (some ⟨s_.2, 0, none⟩))]) (fun s_ w' => (w'.cell? ⟨gb1608, 0, none⟩ = some (.int .i64 a0_0) ∧ w'.cell? ⟨gb1608, 1, none⟩ = some (.slice A0_1 l0_1.length c0_1) ∧ w'.cell? ⟨gb1608, 2, none⟩ = some (.slice A0_2 l0_2.length c0_2)) ∧ (Kd.R (Kd.slice 2 (Kd.int .i64)) 22 w' w.heap.size (fun _ => True) s_.1 T1612) ∧ (w'.heap[gb1608]? = some (.cells #[.int .i64 a0_0, .slice A0_1 l0_1.length c0_1, .slice A0_2 l0_2.length c0_2] 26 (0, 0))) ∧ (w'.heap[gb1609]? = some (.cells #[.int .i64 0, .slice none 0 0, .slice none 0 0] 37 (0, 0))) ∧ (w'.heap[s_.2]? = some (.cells #[.int .i64 0, .slice none 0 0, .slice none 0 0] 37 (0, 0))) ∧ (w.heap.size ≤ s_.2) ∧ (w.heap.size ≤ s_.2) ∧ (gb1608 ≠ s_.2) ∧ (s_.2 ≠ gb1608) ∧ (gb1609 ≠ s_.2) ∧ (s_.2 ≠ gb1609) ∧ (Below w.heap.size w w')) ?_ ?_
     rotate_left
     ·intro hJ3_5_12
      refine join_ (σ := Value) 7 (bl 14 127) (fun s_ => [(17, .int .i64 t1611), (19, s_)]) (fun s_ w' => (w'.cell? ⟨gb1608, 0, none⟩ = some (.int .i64 a0_0) ∧ w'.cell? ⟨gb1608, 1, none⟩ = some (.slice A0_1 l0_1.length c0_1) ∧ w'.cell? ⟨gb1608, 2, none⟩ = some (.slice A0_2 l0_2.length c0_2)) ∧ (Kd.R (Kd.slice 2 (Kd.int .i64)) 22 w' w.heap.size (fun _ => True) s_ T1612) ∧ (w'.heap[gb1608]? = some (.cells #[.int .i64 a0_0, .slice A0_1 l0_1.length c0_1, .slice A0_2 l0_2.length c0_2] 26 (0, 0))) ∧ (w'.heap[gb1609]? = some (.cells #[.int .i64 0, .slice none 0 0, .slice none 0 0] 37 (0, 0))) ∧ (Below w.heap.size w w')) ?_ ?_
      rotate_left
      ·intro hJ3_5
       refine join_ (σ := Nat) 7 (bl 14 4191) (fun s_ => [(17, .int .i64 t1611), (5, .pointer (some ⟨s_, 0, none⟩))]) (fun s_ w' => (w'.cell? ⟨gb1608, 0, none⟩ = some (.int .i64 a0_0) ∧ w'.cell? ⟨gb1608, 1, none⟩ = some (.slice A0_1 l0_1.length c0_1) ∧ w'.cell? ⟨gb1608, 2, none⟩ = some (.slice A0_2 l0_2.length c0_2)) ∧ (w'.heap[gb1608]? = some (.cells #[.int .i64 a0_0, .slice A0_1 l0_1.length c0_1, .slice A0_2 l0_2.length c0_2] 26 (0, 0))) ∧ (w'.heap[gb1609]? = some (.cells #[.int .i64 0, .slice none 0 0, .slice none 0 0] 37 (0, 0))) ∧ (w'.heap[s_]? = some (.cells #[.int .i64 0, .slice none 0 0, .slice none 0 0] 37 (0, 0))) ∧ (w.heap.size ≤ s_) ∧ (w.heap.size ≤ s_) ∧ (gb1608 ≠ s_) ∧ (s_ ≠ gb1608) ∧ (gb1609 ≠ s_) ∧ (s_ ≠ gb1609) ∧ (Below w.heap.size w w')) ?_ ?_
       rotate_left
       ·intro hJ3_12
        refine join_ (σ := Unit) 8 (bl 14 95) (fun s_ => [(17, .int .i64 t1611)]) (fun s_ w' => (w'.cell? ⟨gb1608, 0, none⟩ = some (.int .i64 a0_0) ∧ w'.cell? ⟨gb1608, 1, none⟩ = some (.slice A0_1 l0_1.length c0_1) ∧ w'.cell? ⟨gb1608, 2, none⟩ = some (.slice A0_2 l0_2.length c0_2)) ∧ (w'.heap[gb1608]? = some (.cells #[.int .i64 a0_0, .slice A0_1 l0_1.length c0_1, .slice A0_2 l0_2.length c0_2] 26 (0, 0))) ∧ (w'.heap[gb1609]? = some (.cells #[.int .i64 0, .slice none 0 0, .slice none 0 0] 37 (0, 0))) ∧ (Below w.heap.size w w')) ?_ ?_
        rotate_left
        ·intro hJ3
         refine join_ (σ := Nat) 8 (bl 14 4183) (fun s_ => [(5, .pointer (some ⟨s_, 0, none⟩))]) (fun s_ w' => (w'.cell? ⟨gb1608, 0, none⟩ = some (.int .i64 a0_0) ∧ w'.cell? ⟨gb1608, 1, none⟩ = some (.slice A0_1 l0_1.length c0_1) ∧ w'.cell? ⟨gb1608, 2, none⟩ = some (.slice A0_2 l0_2.length c0_2)) ∧ (w'.heap[gb1608]? = some (.cells #[.int .i64 a0_0, .slice A0_1 l0_1.length c0_1, .slice A0_2 l0_2.length c0_2] 26 (0, 0))) ∧ (w'.heap[gb1609]? = some (.cells #[.int .i64 0, .slice none 0 0, .slice none 0 0] 37 (0, 0))) ∧ (w'.heap[s_]? = some (.cells #[.int .i64 0, .slice none 0 0, .slice none 0 0] 37 (0, 0))) ∧ (w.heap.size ≤ s_) ∧ (w.heap.size ≤ s_) ∧ (gb1608 ≠ s_) ∧ (s_ ≠ gb1608) ∧ (gb1609 ≠ s_) ∧ (s_ ≠ gb1609) ∧ (Below w.heap.size w w')) ?_ ?_
         rotate_left
         ·intro hJ12
          refine two_ (i := 3) (j := 12) (Ni := some 17) (Nj := some 5) (bl 14 95) (bl 14 4183) rfl rfl rfl rfl (two_of HT_.out (by kernel_rfl)) (by decide) (by decide) (fun K hK => ?_) (fun K hK => ?_)
          ·skip
           refine gS Try.func79 #[.agg #[.int .i64 a0_0, .slice A0_1 l0_1.length c0_1, .slice A0_2 l0_2.length c0_2]] ?_
           with_reducible refine (impl_Jacobi_field.calls a0_0 _ _ l0_1 _ _ l0_2 t1611 _ ?side1 ?side2 ?side3 ?side4 A4.out).mono ?_
           (case side1 => exact uC ((Kd.C_below HR0_1.out HB.out)))
           (case side2 => exact HC0_1.out)
           (case side3 => exact uC ((Kd.C_below HR0_2.out HB.out)))
           (case side4 => exact HC0_2.out)
           rintro e w17 ⟨rfl, hb⟩
           refine ⟨_, rfl, ?_⟩
           replace BK1608 := xB BK1608 hb
           replace BK1609 := xB BK1609 hb
           replace HB := xH HB hb
           (try clear hb); (try clear hb2); (try clear hk); (try clear hi)
           refine hK.out _ _ ⟨bcu BK1608 0, bcu BK1608 1, bcu BK1608 2⟩ (fun hHeld => ?_)
           clear hK K
           refine no_ 17 ?_
           exact norm_ (by first | (simp only [putAll, Act.put, ls, lz, ln]; done) | (simp only [putAll, Act.put, ls, lz, ln]; rfl)) (hJ3 () _ ⟨hHeld, (uB BK1608.out), (uB BK1609.out), (uH HB.out)⟩)
          ·skip
           refine box_step ?hg (N := 5) ?hd (cs := #[.int .i64 0, .slice none 0 0, .slice none 0 0]) (t := 37) ?hr ?_; (case hd => rfl); (case hg => rfl); (case hr => first | (go_simp; done) | (go_simp; rfl))
           intro gb1619 hg w17 hbox hb
           have BK1619 := zA (hbox)
           have GW1619 := gq HB hg
           have GE1619 := gq HB hg
           replace HB := xH HB hb
           have NB1608_1619 := zA ((by rw [hg]; exact neL BK1608 : gb1608 ≠ gb1619))
           have NB1619_1608 := zA ((by rw [hg]; exact neG BK1608 : gb1619 ≠ gb1608))
           replace BK1608 := xB BK1608 hb
           have NB1609_1619 := zA ((by rw [hg]; exact neL BK1609 : gb1609 ≠ gb1619))
           have NB1619_1609 := zA ((by rw [hg]; exact neG BK1609 : gb1619 ≠ gb1609))
           replace BK1609 := xB BK1609 hb
           have := geI GE1619
           clear hb hbox hg
           refine hK.out _ _ ⟨bcu BK1608 0, bcu BK1608 1, bcu BK1608 2⟩ (fun hHeld => ?_)
           clear hK K
           refine no_ 5 ?_
           exact norm_ (by first | (simp only [putAll, Act.put, ls, lz, ln]; done) | (simp only [putAll, Act.put, ls, lz, ln]; rfl)) (hJ12 (gb1619) _ ⟨hHeld, (uB BK1608.out), (uB BK1609.out), (uB BK1619.out), GW1619.out, GE1619.out, NB1608_1619.out, NB1619_1608.out, NB1609_1619.out, NB1619_1609.out, (uH HB.out)⟩)
         ·skip
          rintro gb1619 w18 ⟨hS_, h0_, h1_, h2_, h3_, h4_, h5_, h6_, h7_, h8_, h9_⟩
          have n0_ : Aside0 (w18.heap[gb1608]? = some (.cells #[.int .i64 a0_0, .slice A0_1 l0_1.length c0_1, .slice A0_2 l0_2.length c0_2] 26 (0, 0))) := ⟨h0_⟩
          have n1_ : Aside0 (w18.heap[gb1609]? = some (.cells #[.int .i64 0, .slice none 0 0, .slice none 0 0] 37 (0, 0))) := ⟨h1_⟩
          have n2_ : Aside0 (w18.heap[gb1619]? = some (.cells #[.int .i64 0, .slice none 0 0, .slice none 0 0] 37 (0, 0))) := ⟨h2_⟩
          have n3_ : Aside0 (w.heap.size ≤ gb1619) := ⟨h3_⟩
          have n4_ : Aside0 (w.heap.size ≤ gb1619) := ⟨h4_⟩
          have n5_ : Aside0 (gb1608 ≠ gb1619) := ⟨h5_⟩
          have n6_ : Aside0 (gb1619 ≠ gb1608) := ⟨h6_⟩
          have n7_ : Aside0 (gb1609 ≠ gb1619) := ⟨h7_⟩
          have n8_ : Aside0 (gb1619 ≠ gb1609) := ⟨h8_⟩
          have n9_ : Aside0 (Below w.heap.size w w18) := ⟨h9_⟩
          clear BK1608 BK1609 HB
          clear h0_ h1_ h2_ h3_ h4_ h5_ h6_ h7_ h8_ h9_
          have BK1608 := n0_
          have BK1609 := n1_
          have BK1619 := n2_
          have GW1619 := n3_
          have GE1619 := n4_
          have := geI GE1619
          have NB1608_1619 := n5_
          have NB1619_1608 := n6_
          have NB1609_1619 := n7_
          have NB1619_1609 := n8_
          have HB := n9_
          clear n0_ n1_ n2_ n3_ n4_ n5_ n6_ n7_ n8_ n9_
          have hHeld : w18.cell? ⟨gb1608, 0, none⟩ = some (.int .i64 a0_0) ∧ w18.cell? ⟨gb1608, 1, none⟩ = some (.slice A0_1 l0_1.length c0_1) ∧ w18.cell? ⟨gb1608, 2, none⟩ = some (.slice A0_2 l0_2.length c0_2) := hS_
          refine norm_ (a' := ?_) ?_ ?_
          rotate_left
          ·simp only [putAll, Act.put, ls, lz, ln]
           rfl
          refine on_ 3 (some 17) (bl 14 4191) HT_ (fun K hK => ?_)
          refine gS Try.func79 #[.agg #[.int .i64 a0_0, .slice A0_1 l0_1.length c0_1, .slice A0_2 l0_2.length c0_2]] ?_
          with_reducible refine (impl_Jacobi_field.calls a0_0 _ _ l0_1 _ _ l0_2 t1611 _ ?side1 ?side2 ?side3 ?side4 A4.out).mono ?_
          (case side1 => exact uC ((Kd.C_below HR0_1.out HB.out)))
          (case side2 => exact HC0_1.out)
          (case side3 => exact uC ((Kd.C_below HR0_2.out HB.out)))
          (case side4 => exact HC0_2.out)
          rintro e w19 ⟨rfl, hb⟩
          refine ⟨_, rfl, ?_⟩
          replace BK1608 := xB BK1608 hb
          replace BK1609 := xB BK1609 hb
          replace BK1619 := xB BK1619 hb
          replace HB := xH HB hb
          (try clear hb); (try clear hb2); (try clear hk); (try clear hi)
          refine hK.out _ _ ⟨bcu BK1608 0, bcu BK1608 1, bcu BK1608 2⟩ (fun hHeld => ?_)
          clear hK K
          refine no_ 17 ?_
          exact norm_ (by first | (simp only [putAll, Act.put, ls, lz, ln]; done) | (simp only [putAll, Act.put, ls, lz, ln]; rfl)) (hJ3_12 (gb1619) _ ⟨hHeld, (uB BK1608.out), (uB BK1609.out), (uB BK1619.out), GW1619.out, GE1619.out, NB1608_1619.out, NB1619_1608.out, NB1609_1619.out, NB1619_1609.out, (uH HB.out)⟩)
        ·skip
         rintro _ w18 ⟨hS_, h0_, h1_, h2_⟩
         have n0_ : Aside0 (w18.heap[gb1608]? = some (.cells #[.int .i64 a0_0, .slice A0_1 l0_1.length c0_1, .slice A0_2 l0_2.length c0_2] 26 (0, 0))) := ⟨h0_⟩
         have n1_ : Aside0 (w18.heap[gb1609]? = some (.cells #[.int .i64 0, .slice none 0 0, .slice none 0 0] 37 (0, 0))) := ⟨h1_⟩
         have n2_ : Aside0 (Below w.heap.size w w18) := ⟨h2_⟩
         clear BK1608 BK1609 HB
         clear h0_ h1_ h2_
         have BK1608 := n0_
         have BK1609 := n1_
         have HB := n2_
         clear n0_ n1_ n2_
         have hHeld : w18.cell? ⟨gb1608, 0, none⟩ = some (.int .i64 a0_0) ∧ w18.cell? ⟨gb1608, 1, none⟩ = some (.slice A0_1 l0_1.length c0_1) ∧ w18.cell? ⟨gb1608, 2, none⟩ = some (.slice A0_2 l0_2.length c0_2) := hS_
         refine norm_ (a' := ?_) ?_ ?_
         rotate_left
         ·simp only [putAll, Act.put, ls, lz, ln]
          rfl
         refine two_ (i := 5) (j := 12) (Ni := some 19) (Nj := some 5) (bl 14 127) (bl 14 4191) rfl rfl rfl rfl (two_of HT_.out (by kernel_rfl)) (by decide) (by decide) (fun K hK => ?_) (fun K hK => ?_)
         ·skip
          refine gS Try.func81 #[.agg #[.int .i64 a0_0, .slice A0_1 l0_1.length c0_1, .slice A0_2 l0_2.length c0_2]] ?_
          with_reducible refine (impl_Jacobi_polys.callsR k a0_0 _ _ l0_1 _ _ l0_2 T1612 _ ?side1 ?side2 ?side3 ?side4 A5.out).mono ?_
          (case side1 => exact uC ((Kd.C_below HR0_1.out HB.out)))
          (case side2 => exact HC0_1.out)
          (case side3 => exact uC ((Kd.C_below HR0_2.out HB.out)))
          (case side4 => exact HC0_2.out)
          rintro e w19 ⟨v1613, rfl, ho0, hb⟩
          refine ⟨_, rfl, ?_⟩
          have HO1614 := zA (Kd.R_mono (ok' := fun _ => True) (Kd.R_lower ho0 (below_size (uH HB.out))) (fun _ _ => trivial))
          replace BK1608 := xB BK1608 hb
          replace BK1609 := xB BK1609 hb
          replace HB := xH HB hb
          (try clear hb); (try clear hb2); (try clear hk); (try clear hi); (try clear ho0)
          refine hK.out _ _ ⟨bcu BK1608 0, bcu BK1608 1, bcu BK1608 2⟩ (fun hHeld => ?_)
          clear hK K
          refine no_ 19 ?_
          exact norm_ (by first | (simp only [putAll, Act.put, ls, lz, ln]; done) | (simp only [putAll, Act.put, ls, lz, ln]; rfl)) (hJ3_5 (v1613) _ ⟨hHeld, (uR HO1614.out), (uB BK1608.out), (uB BK1609.out), (uH HB.out)⟩)
         ·skip
          refine box_step ?hg (N := 5) ?hd (cs := #[.int .i64 0, .slice none 0 0, .slice none 0 0]) (t := 37) ?hr ?_; (case hd => rfl); (case hg => rfl); (case hr => first | (go_simp; done) | (go_simp; rfl))
          intro gb1619 hg w19 hbox hb
          have BK1619 := zA (hbox)
          have GW1619 := gq HB hg
          have GE1619 := gq HB hg
          replace HB := xH HB hb
          have NB1608_1619 := zA ((by rw [hg]; exact neL BK1608 : gb1608 ≠ gb1619))
          have NB1619_1608 := zA ((by rw [hg]; exact neG BK1608 : gb1619 ≠ gb1608))
          replace BK1608 := xB BK1608 hb
          have NB1609_1619 := zA ((by rw [hg]; exact neL BK1609 : gb1609 ≠ gb1619))
          have NB1619_1609 := zA ((by rw [hg]; exact neG BK1609 : gb1619 ≠ gb1609))
          replace BK1609 := xB BK1609 hb
          have := geI GE1619
          clear hb hbox hg
          refine hK.out _ _ ⟨bcu BK1608 0, bcu BK1608 1, bcu BK1608 2⟩ (fun hHeld => ?_)
          clear hK K
          refine no_ 5 ?_
          exact norm_ (by first | (simp only [putAll, Act.put, ls, lz, ln]; done) | (simp only [putAll, Act.put, ls, lz, ln]; rfl)) (hJ3_12 (gb1619) _ ⟨hHeld, (uB BK1608.out), (uB BK1609.out), (uB BK1619.out), GW1619.out, GE1619.out, NB1608_1619.out, NB1619_1608.out, NB1609_1619.out, NB1619_1609.out, (uH HB.out)⟩)
       ·skip
        rintro gb1619 w19 ⟨hS_, h0_, h1_, h2_, h3_, h4_, h5_, h6_, h7_, h8_, h9_⟩
        have n0_ : Aside0 (w19.heap[gb1608]? = some (.cells #[.int .i64 a0_0, .slice A0_1 l0_1.length c0_1, .slice A0_2 l0_2.length c0_2] 26 (0, 0))) := ⟨h0_⟩
        have n1_ : Aside0 (w19.heap[gb1609]? = some (.cells #[.int .i64 0, .slice none 0 0, .slice none 0 0] 37 (0, 0))) := ⟨h1_⟩
        have n2_ : Aside0 (w19.heap[gb1619]? = some (.cells #[.int .i64 0, .slice none 0 0, .slice none 0 0] 37 (0, 0))) := ⟨h2_⟩
        have n3_ : Aside0 (w.heap.size ≤ gb1619) := ⟨h3_⟩
        have n4_ : Aside0 (w.heap.size ≤ gb1619) := ⟨h4_⟩
        have n5_ : Aside0 (gb1608 ≠ gb1619) := ⟨h5_⟩
        have n6_ : Aside0 (gb1619 ≠ gb1608) := ⟨h6_⟩
        have n7_ : Aside0 (gb1609 ≠ gb1619) := ⟨h7_⟩
        have n8_ : Aside0 (gb1619 ≠ gb1609) := ⟨h8_⟩
        have n9_ : Aside0 (Below w.heap.size w w19) := ⟨h9_⟩
        clear BK1608 BK1609 HB
        clear h0_ h1_ h2_ h3_ h4_ h5_ h6_ h7_ h8_ h9_
        have BK1608 := n0_
        have BK1609 := n1_
        have BK1619 := n2_
        have GW1619 := n3_
        have GE1619 := n4_
        have := geI GE1619
        have NB1608_1619 := n5_
        have NB1619_1608 := n6_
        have NB1609_1619 := n7_
        have NB1619_1609 := n8_
        have HB := n9_
        clear n0_ n1_ n2_ n3_ n4_ n5_ n6_ n7_ n8_ n9_
        have hHeld : w19.cell? ⟨gb1608, 0, none⟩ = some (.int .i64 a0_0) ∧ w19.cell? ⟨gb1608, 1, none⟩ = some (.slice A0_1 l0_1.length c0_1) ∧ w19.cell? ⟨gb1608, 2, none⟩ = some (.slice A0_2 l0_2.length c0_2) := hS_
        refine norm_ (a' := ?_) ?_ ?_
        rotate_left
        ·simp only [putAll, Act.put, ls, lz, ln]
         rfl
        refine on_ 5 (some 19) (bl 14 4223) HT_ (fun K hK => ?_)
        refine gS Try.func81 #[.agg #[.int .i64 a0_0, .slice A0_1 l0_1.length c0_1, .slice A0_2 l0_2.length c0_2]] ?_
        with_reducible refine (impl_Jacobi_polys.callsR k a0_0 _ _ l0_1 _ _ l0_2 T1612 _ ?side1 ?side2 ?side3 ?side4 A5.out).mono ?_
        (case side1 => exact uC ((Kd.C_below HR0_1.out HB.out)))
        (case side2 => exact HC0_1.out)
        (case side3 => exact uC ((Kd.C_below HR0_2.out HB.out)))
        (case side4 => exact HC0_2.out)
        rintro e w20 ⟨v1613, rfl, ho0, hb⟩
        refine ⟨_, rfl, ?_⟩
        have HO1614 := zA (Kd.R_mono (ok' := fun _ => True) (Kd.R_lower ho0 (below_size (uH HB.out))) (fun _ _ => trivial))
        replace BK1608 := xB BK1608 hb
        replace BK1609 := xB BK1609 hb
        replace BK1619 := xB BK1619 hb
        replace HB := xH HB hb
        (try clear hb); (try clear hb2); (try clear hk); (try clear hi); (try clear ho0)
        refine hK.out _ _ ⟨bcu BK1608 0, bcu BK1608 1, bcu BK1608 2⟩ (fun hHeld => ?_)
        clear hK K
        refine no_ 19 ?_
        exact norm_ (by first | (simp only [putAll, Act.put, ls, lz, ln]; done) | (simp only [putAll, Act.put, ls, lz, ln]; rfl)) (hJ3_5_12 (v1613, gb1619) _ ⟨hHeld, (uR HO1614.out), (uB BK1608.out), (uB BK1609.out), (uB BK1619.out), GW1619.out, GE1619.out, NB1608_1619.out, NB1619_1608.out, NB1609_1619.out, NB1619_1609.out, (uH HB.out)⟩)
      ·skip
       rintro v1613 w19 ⟨hS_, h0_, h1_, h2_, h3_⟩
       have n0_ : Aside0 (Kd.R (Kd.slice 2 (Kd.int .i64)) 22 w19 w.heap.size (fun _ => True) v1613 T1612) := ⟨h0_⟩
       have n1_ : Aside0 (w19.heap[gb1608]? = some (.cells #[.int .i64 a0_0, .slice A0_1 l0_1.length c0_1, .slice A0_2 l0_2.length c0_2] 26 (0, 0))) := ⟨h1_⟩
       have n2_ : Aside0 (w19.heap[gb1609]? = some (.cells #[.int .i64 0, .slice none 0 0, .slice none 0 0] 37 (0, 0))) := ⟨h2_⟩
       have n3_ : Aside0 (Below w.heap.size w w19) := ⟨h3_⟩
       clear BK1608 BK1609 HB
       clear h0_ h1_ h2_ h3_
       have HO1614 := n0_
       have BK1608 := n1_
       have BK1609 := n2_
       have HB := n3_
       clear n0_ n1_ n2_ n3_
       have hHeld : w19.cell? ⟨gb1608, 0, none⟩ = some (.int .i64 a0_0) ∧ w19.cell? ⟨gb1608, 1, none⟩ = some (.slice A0_1 l0_1.length c0_1) ∧ w19.cell? ⟨gb1608, 2, none⟩ = some (.slice A0_2 l0_2.length c0_2) := hS_
       refine norm_ (a' := ?_) ?_ ?_
       rotate_left
       ·simp only [putAll, Act.put, ls, lz, ln]
        rfl
       refine two_ (i := 7) (j := 12) (Ni := some 21) (Nj := some 5) (bl 14 255) (bl 14 4223) rfl rfl rfl rfl (two_of HT_.out (by kernel_rfl)) (by decide) (by decide) (fun K hK => ?_) (fun K hK => ?_)
       ·skip
        refine gS Try.func59 #[.agg #[.int .i64 a0_0, .slice A0_1 l0_1.length c0_1, .slice A0_2 l0_2.length c0_2]] ?_
        with_reducible refine (impl_Jacobi_size.calls a0_0 _ _ l0_1 _ _ l0_2 t1615 _ ?side1 ?side2 ?side3 ?side4 A6.out).mono ?_
        (case side1 => exact uC ((Kd.C_below HR0_1.out HB.out)))
        (case side2 => exact HC0_1.out)
        (case side3 => exact uC ((Kd.C_below HR0_2.out HB.out)))
        (case side4 => exact HC0_2.out)
        rintro e w20 ⟨rfl, hb⟩
        refine ⟨_, rfl, ?_⟩
        replace HO1614 := xR HO1614 hb
        replace BK1608 := xB BK1608 hb
        replace BK1609 := xB BK1609 hb
        replace HB := xH HB hb
        (try clear hb); (try clear hb2); (try clear hk); (try clear hi)
        refine hK.out _ _ ⟨bcu BK1608 0, bcu BK1608 1, bcu BK1608 2⟩ (fun hHeld => ?_)
        clear hK K
        refine no_ 21 ?_
        obtain ⟨Aoz, coz, eoz⟩ := Kd.R_slice HO1614.out
        subst eoz
        obtain ⟨adz, Az, cz, ez, hxz, hlz, hiz⟩ := at_L1 (Kd.R_reads' HO1614.out).2.2 t1615 CZ1.out CZ2.out
        cases ez
        have HEZ := zA (R_elemA HO1614.out t1615 CZ1.out CZ2.out hxz)
        rw [HTZ.out] at HEZ hxz
        have pz := eq_true CZ1.out
        have qz := eq_true CZ2.out
        refine pu_ 8 22 (bl 14 511) HT_ ?_
        refine two_ (i := 9) (j := 12) (Ni := some 23) (Nj := some 5) (bl 14 1023) (bl 14 4607) rfl rfl rfl rfl (two_of HT_.out (by kernel_rfl)) (by decide) (by decide) (fun K hK => ?_) (fun K hK => ?_)
        ·refine value_ rfl rfl (by go_simp; exact ⟨rfl, rfl⟩) ?_
         refine hK.out _ _ hHeld (fun hHeld => ?_)
         clear hK K
         refine no_ 23 ?_
         have HO1614 := HEZ
         exact norm_ (by first | (simp only [putAll, Act.put, ls, lz, ln]; done) | (simp only [putAll, Act.put, ls, lz, ln]; rfl)) (hJ3_5_7 (.tuple #[.slice (some adz) T1612.length coz, .pointer (some (adz.add t1615.toNat)), .slice Az t1612.length cz]) _ ⟨hHeld, (uR HO1614.out), (uB BK1608.out), (uB BK1609.out), (uH HB.out)⟩)
        ·skip
         refine box_step ?hg (N := 5) ?hd (cs := #[.int .i64 0, .slice none 0 0, .slice none 0 0]) (t := 37) ?hr ?_; (case hd => rfl); (case hg => rfl); (case hr => first | (go_simp; done) | (go_simp; rfl))
         intro gb1619 hg w20 hbox hb
         replace HO1614 := xR HEZ hb; replace hxz := (hb.cell (World.block_lt_of_cell? _ _ hxz)).trans hxz
         have BK1619 := zA (hbox)
         have GW1619 := gq HB hg
         have GE1619 := gq HB hg
         replace HB := xH HB hb
         have NB1608_1619 := zA ((by rw [hg]; exact neL BK1608 : gb1608 ≠ gb1619))
         have NB1619_1608 := zA ((by rw [hg]; exact neG BK1608 : gb1619 ≠ gb1608))
         replace BK1608 := xB BK1608 hb
         have NB1609_1619 := zA ((by rw [hg]; exact neL BK1609 : gb1609 ≠ gb1619))
         have NB1619_1609 := zA ((by rw [hg]; exact neG BK1609 : gb1619 ≠ gb1609))
         replace BK1609 := xB BK1609 hb
         have := geI GE1619
         clear hb hbox hg
         refine hK.out _ _ ⟨bcu BK1608 0, bcu BK1608 1, bcu BK1608 2⟩ (fun hHeld => ?_)
         clear hK K
         refine no_ 5 ?_
         refine lo_ 9 23 (bl 14 5119) HT_ hHeld ?_
         exact norm_ (by first | (simp only [putAll, Act.put, ls, lz, ln]; done) | (simp only [putAll, Act.put, ls, lz, ln]; rfl)) (hJ3_5_7_12 (.tuple #[.slice (some adz) T1612.length coz, .pointer (some (adz.add t1615.toNat)), .slice Az t1612.length cz], gb1619) _ ⟨hHeld, (uR HO1614.out), (uB BK1608.out), (uB BK1609.out), (uB BK1619.out), GW1619.out, GE1619.out, NB1608_1619.out, NB1619_1608.out, NB1609_1619.out, NB1619_1609.out, (uH HB.out)⟩)
       ·skip
        refine box_step ?hg (N := 5) ?hd (cs := #[.int .i64 0, .slice none 0 0, .slice none 0 0]) (t := 37) ?hr ?_; (case hd => rfl); (case hg => rfl); (case hr => first | (go_simp; done) | (go_simp; rfl))
        intro gb1619 hg w20 hbox hb
        replace HO1614 := xR HO1614 hb
        have BK1619 := zA (hbox)
        have GW1619 := gq HB hg
        have GE1619 := gq HB hg
        replace HB := xH HB hb
        have NB1608_1619 := zA ((by rw [hg]; exact neL BK1608 : gb1608 ≠ gb1619))
        have NB1619_1608 := zA ((by rw [hg]; exact neG BK1608 : gb1619 ≠ gb1608))
        replace BK1608 := xB BK1608 hb
        have NB1609_1619 := zA ((by rw [hg]; exact neL BK1609 : gb1609 ≠ gb1619))
        have NB1619_1609 := zA ((by rw [hg]; exact neG BK1609 : gb1619 ≠ gb1609))
        replace BK1609 := xB BK1609 hb
        have := geI GE1619
        clear hb hbox hg
        refine hK.out _ _ ⟨bcu BK1608 0, bcu BK1608 1, bcu BK1608 2⟩ (fun hHeld => ?_)
        clear hK K
        refine no_ 5 ?_
        exact norm_ (by first | (simp only [putAll, Act.put, ls, lz, ln]; done) | (simp only [putAll, Act.put, ls, lz, ln]; rfl)) (hJ3_5_12 (v1613, gb1619) _ ⟨hHeld, (uR HO1614.out), (uB BK1608.out), (uB BK1609.out), (uB BK1619.out), GW1619.out, GE1619.out, NB1608_1619.out, NB1619_1608.out, NB1609_1619.out, NB1619_1609.out, (uH HB.out)⟩)
     ·skip
      rintro ⟨v1613, gb1619⟩ w20 ⟨hS_, h0_, h1_, h2_, h3_, h4_, h5_, h6_, h7_, h8_, h9_, h10_⟩
      have n0_ : Aside0 (Kd.R (Kd.slice 2 (Kd.int .i64)) 22 w20 w.heap.size (fun _ => True) v1613 T1612) := ⟨h0_⟩
      have n1_ : Aside0 (w20.heap[gb1608]? = some (.cells #[.int .i64 a0_0, .slice A0_1 l0_1.length c0_1, .slice A0_2 l0_2.length c0_2] 26 (0, 0))) := ⟨h1_⟩
      have n2_ : Aside0 (w20.heap[gb1609]? = some (.cells #[.int .i64 0, .slice none 0 0, .slice none 0 0] 37 (0, 0))) := ⟨h2_⟩
      have n3_ : Aside0 (w20.heap[gb1619]? = some (.cells #[.int .i64 0, .slice none 0 0, .slice none 0 0] 37 (0, 0))) := ⟨h3_⟩
      have n4_ : Aside0 (w.heap.size ≤ gb1619) := ⟨h4_⟩
      have n5_ : Aside0 (w.heap.size ≤ gb1619) := ⟨h5_⟩
      have n6_ : Aside0 (gb1608 ≠ gb1619) := ⟨h6_⟩
      have n7_ : Aside0 (gb1619 ≠ gb1608) := ⟨h7_⟩
      have n8_ : Aside0 (gb1609 ≠ gb1619) := ⟨h8_⟩
      have n9_ : Aside0 (gb1619 ≠ gb1609) := ⟨h9_⟩
      have n10_ : Aside0 (Below w.heap.size w w20) := ⟨h10_⟩
      clear BK1608 BK1609 HB
      clear h0_ h1_ h2_ h3_ h4_ h5_ h6_ h7_ h8_ h9_ h10_
      have HO1614 := n0_
      have BK1608 := n1_
      have BK1609 := n2_
      have BK1619 := n3_
      have GW1619 := n4_
      have GE1619 := n5_
      have := geI GE1619
      have NB1608_1619 := n6_
      have NB1619_1608 := n7_
      have NB1609_1619 := n8_
      have NB1619_1609 := n9_
      have HB := n10_
      clear n0_ n1_ n2_ n3_ n4_ n5_ n6_ n7_ n8_ n9_ n10_
      have hHeld : w20.cell? ⟨gb1608, 0, none⟩ = some (.int .i64 a0_0) ∧ w20.cell? ⟨gb1608, 1, none⟩ = some (.slice A0_1 l0_1.length c0_1) ∧ w20.cell? ⟨gb1608, 2, none⟩ = some (.slice A0_2 l0_2.length c0_2) := hS_
      refine norm_ (a' := ?_) ?_ ?_
      rotate_left
      ·simp only [putAll, Act.put, ls, lz, ln]
       rfl
      refine on_ 7 (some 21) (bl 14 4351) HT_ (fun K hK => ?_)
      refine gS Try.func59 #[.agg #[.int .i64 a0_0, .slice A0_1 l0_1.length c0_1, .slice A0_2 l0_2.length c0_2]] ?_
      with_reducible refine (impl_Jacobi_size.calls a0_0 _ _ l0_1 _ _ l0_2 t1615 _ ?side1 ?side2 ?side3 ?side4 A6.out).mono ?_
      (case side1 => exact uC ((Kd.C_below HR0_1.out HB.out)))
      (case side2 => exact HC0_1.out)
      (case side3 => exact uC ((Kd.C_below HR0_2.out HB.out)))
      (case side4 => exact HC0_2.out)
      rintro e w21 ⟨rfl, hb⟩
      refine ⟨_, rfl, ?_⟩
      replace HO1614 := xR HO1614 hb
      replace BK1608 := xB BK1608 hb
      replace BK1609 := xB BK1609 hb
      replace BK1619 := xB BK1619 hb
      replace HB := xH HB hb
      (try clear hb); (try clear hb2); (try clear hk); (try clear hi)
      refine hK.out _ _ ⟨bcu BK1608 0, bcu BK1608 1, bcu BK1608 2⟩ (fun hHeld => ?_)
      clear hK K
      refine no_ 21 ?_
      obtain ⟨Aoz, coz, eoz⟩ := Kd.R_slice HO1614.out
      subst eoz
      obtain ⟨adz, Az, cz, ez, hxz, hlz, hiz⟩ := at_L1 (Kd.R_reads' HO1614.out).2.2 t1615 CZ1.out CZ2.out
      cases ez
      have HEZ := zA (R_elemA HO1614.out t1615 CZ1.out CZ2.out hxz)
      rw [HTZ.out] at HEZ hxz
      have pz := eq_true CZ1.out
      have qz := eq_true CZ2.out
      refine pu_ 8 22 (bl 14 4607) HT_ ?_
      refine lo_ 9 23 (bl 14 5119) HT_ hHeld ?_
      have HO1614 := HEZ
      exact norm_ (by first | (simp only [putAll, Act.put, ls, lz, ln]; done) | (simp only [putAll, Act.put, ls, lz, ln]; rfl)) (hJ3_5_7_12 (.tuple #[.slice (some adz) T1612.length coz, .pointer (some (adz.add t1615.toNat)), .slice Az t1612.length cz], gb1619) _ ⟨hHeld, (uR HO1614.out), (uB BK1608.out), (uB BK1609.out), (uB BK1619.out), GW1619.out, GE1619.out, NB1608_1619.out, NB1619_1608.out, NB1609_1619.out, NB1619_1609.out, (uH HB.out)⟩)
    ·skip
     rintro vpk w20 ⟨hS_, h0_, h1_, h2_, h3_⟩
     obtain ⟨vz0, hz0⟩ : ∃ v_, prj vpk 0 = v_ := ⟨_, rfl⟩
     obtain ⟨vz1, hz1⟩ : ∃ v_, prj vpk 1 = v_ := ⟨_, rfl⟩
     obtain ⟨v1613, hz2⟩ : ∃ v_, prj vpk 2 = v_ := ⟨_, rfl⟩
     (try rw [hz2] at h0_)
     (try rw [hz2] at h1_)
     have n0_ : Aside0 (Kd.R (Kd.int .i64) 2 w20 w.heap.size (fun _ => True) v1613 t1612) := ⟨h0_⟩
     have n1_ : Aside0 (w20.heap[gb1608]? = some (.cells #[.int .i64 a0_0, .slice A0_1 l0_1.length c0_1, .slice A0_2 l0_2.length c0_2] 26 (0, 0))) := ⟨h1_⟩
     have n2_ : Aside0 (w20.heap[gb1609]? = some (.cells #[.int .i64 0, .slice none 0 0, .slice none 0 0] 37 (0, 0))) := ⟨h2_⟩
     have n3_ : Aside0 (Below w.heap.size w w20) := ⟨h3_⟩
     clear BK1608 BK1609 HB
     clear h0_ h1_ h2_ h3_
     have HO1614 := n0_
     have BK1608 := n1_
     have BK1609 := n2_
     have HB := n3_
     clear n0_ n1_ n2_ n3_
     have hHeld : w20.cell? ⟨gb1608, 0, none⟩ = some (.int .i64 a0_0) ∧ w20.cell? ⟨gb1608, 1, none⟩ = some (.slice A0_1 l0_1.length c0_1) ∧ w20.cell? ⟨gb1608, 2, none⟩ = some (.slice A0_2 l0_2.length c0_2) := hS_
     obtain ⟨Ao21, co21, eo21⟩ := Kd.R_slice HO1614.out
     (first | subst eo21 | (injection eo21 with f1_ f2_ f3_; have f4_ := f1_.symm; have f5_ := f3_.symm; clear f1_ f2_ f3_; subst f4_; subst f5_))
     refine norm_ (a' := ?_) ?_ ?_
     rotate_left
     ·simp only [putAll, Act.put, ls, lz, ln]
      rfl
     (try rw [hz0])
     (try rw [hz1])
     (try rw [hz2])
     refine two_ (i := 10) (j := 12) (Ni := some 24) (Nj := some 5) (bl 14 2047) (bl 14 5119) rfl rfl rfl rfl (two_of HT_.out (by kernel_rfl)) (by decide) (by decide) (fun K hK => ?_) (fun K hK => ?_)
     ·skip
      refine gS Try.func80 #[.int .i64 t1611, .slice Ao21 t1612.length co21] ?_
      with_reducible refine (impl_field_roots.calls k t1611 _ _ t1612 t1616 _ ?side1 ?side2 A7.out).mono ?_
      (case side1 => exact uC ((Kd.R_reads' HO1614.out).2.2))
      (case side2 => exact (Kd.R_reads' HO1614.out).2.1)
      rintro e w22 ⟨v1617, rfl, ho0, hb⟩
      refine ⟨_, rfl, ?_⟩
      have HO1618 := zA (Kd.R_lower (Kd.R_new' ho0 (Kd.R_lt (uR HO1614.out))) (below_size (uH HB.out)))
      replace HO1614 := zA (Kd.R_elder' (uR HO1614.out) (Kd.R_base ho0) hb)
      replace BK1608 := xB BK1608 hb
      replace BK1609 := xB BK1609 hb
      replace HB := xH HB hb
      (try clear hb); (try clear hb2); (try clear hk); (try clear hi); (try clear ho0)
      obtain ⟨Ao23, co23, eo23⟩ := Kd.R_slice HO1618.out
      (first | subst eo23 | (injection eo23 with f1_ f2_ f3_; have f4_ := f1_.symm; have f5_ := f3_.symm; clear f1_ f2_ f3_; subst f4_; subst f5_))
      refine hK.out _ _ ⟨bcu BK1608 0, bcu BK1608 1, bcu BK1608 2⟩ (fun hHeld => ?_)
      clear hK K
      refine no_ 24 ?_
      refine pu_ 11 25 (bl 14 4095) HT_ ?_
      exact norm_ (by first | (simp only [putAll, Act.put, ls, lz, ln]; done) | (simp only [putAll, Act.put, ls, lz, ln]; rfl)) (hJ3_5_7_10 (.tuple #[vz0, vz1, .slice Ao21 t1612.length co21], .slice Ao23 t1616.length co23) _ ⟨hHeld, (uR (Kd.R_mono HO1614.out (fun _ hk => hk.2))), (uR (Kd.R_mono HO1618.out (fun _ hk => hk.2))), (uB BK1608.out), (uB BK1609.out), (uH HB.out)⟩)
     ·skip
      refine box_step ?hg (N := 5) ?hd (cs := #[.int .i64 0, .slice none 0 0, .slice none 0 0]) (t := 37) ?hr ?_; (case hd => rfl); (case hg => rfl); (case hr => first | (go_simp; done) | (go_simp; rfl))
      intro gb1619 hg w21 hbox hb
      replace HO1614 := xR HO1614 hb
      have BK1619 := zA (hbox)
      have GW1619 := gq HB hg
      have GE1619 := gq HB hg
      replace HB := xH HB hb
      have NB1608_1619 := zA ((by rw [hg]; exact neL BK1608 : gb1608 ≠ gb1619))
      have NB1619_1608 := zA ((by rw [hg]; exact neG BK1608 : gb1619 ≠ gb1608))
      replace BK1608 := xB BK1608 hb
      have NB1609_1619 := zA ((by rw [hg]; exact neL BK1609 : gb1609 ≠ gb1619))
      have NB1619_1609 := zA ((by rw [hg]; exact neG BK1609 : gb1619 ≠ gb1609))
      replace BK1609 := xB BK1609 hb
      have := geI GE1619
      clear hb hbox hg
      refine hK.out _ _ ⟨bcu BK1608 0, bcu BK1608 1, bcu BK1608 2⟩ (fun hHeld => ?_)
      clear hK K
      refine no_ 5 ?_
      exact norm_ (by first | (simp only [putAll, Act.put, ls, lz, ln]; done) | (simp only [putAll, Act.put, ls, lz, ln]; rfl)) (hJ3_5_7_12 (.tuple #[vz0, vz1, .slice Ao21 t1612.length co21], gb1619) _ ⟨hHeld, (uR HO1614.out), (uB BK1608.out), (uB BK1609.out), (uB BK1619.out), GW1619.out, GE1619.out, NB1608_1619.out, NB1619_1608.out, NB1609_1619.out, NB1619_1609.out, (uH HB.out)⟩)
   ·skip
    rintro ⟨vpk, gb1619⟩ w21 ⟨hS_, h0_, h1_, h2_, h3_, h4_, h5_, h6_, h7_, h8_, h9_, h10_⟩
    obtain ⟨vz0, hz0⟩ : ∃ v_, prj vpk 0 = v_ := ⟨_, rfl⟩
    obtain ⟨vz1, hz1⟩ : ∃ v_, prj vpk 1 = v_ := ⟨_, rfl⟩
    obtain ⟨v1613, hz2⟩ : ∃ v_, prj vpk 2 = v_ := ⟨_, rfl⟩
    (try rw [hz2] at h0_)
    (try rw [hz2] at h1_)
    have n0_ : Aside0 (Kd.R (Kd.int .i64) 2 w21 w.heap.size (fun _ => True) v1613 t1612) := ⟨h0_⟩
    have n1_ : Aside0 (w21.heap[gb1608]? = some (.cells #[.int .i64 a0_0, .slice A0_1 l0_1.length c0_1, .slice A0_2 l0_2.length c0_2] 26 (0, 0))) := ⟨h1_⟩
    have n2_ : Aside0 (w21.heap[gb1609]? = some (.cells #[.int .i64 0, .slice none 0 0, .slice none 0 0] 37 (0, 0))) := ⟨h2_⟩
    have n3_ : Aside0 (w21.heap[gb1619]? = some (.cells #[.int .i64 0, .slice none 0 0, .slice none 0 0] 37 (0, 0))) := ⟨h3_⟩
    have n4_ : Aside0 (w.heap.size ≤ gb1619) := ⟨h4_⟩
    have n5_ : Aside0 (w.heap.size ≤ gb1619) := ⟨h5_⟩
    have n6_ : Aside0 (gb1608 ≠ gb1619) := ⟨h6_⟩
    have n7_ : Aside0 (gb1619 ≠ gb1608) := ⟨h7_⟩
    have n8_ : Aside0 (gb1609 ≠ gb1619) := ⟨h8_⟩
    have n9_ : Aside0 (gb1619 ≠ gb1609) := ⟨h9_⟩
    have n10_ : Aside0 (Below w.heap.size w w21) := ⟨h10_⟩
    clear BK1608 BK1609 HB
    clear h0_ h1_ h2_ h3_ h4_ h5_ h6_ h7_ h8_ h9_ h10_
    have HO1614 := n0_
    have BK1608 := n1_
    have BK1609 := n2_
    have BK1619 := n3_
    have GW1619 := n4_
    have GE1619 := n5_
    have := geI GE1619
    have NB1608_1619 := n6_
    have NB1619_1608 := n7_
    have NB1609_1619 := n8_
    have NB1619_1609 := n9_
    have HB := n10_
    clear n0_ n1_ n2_ n3_ n4_ n5_ n6_ n7_ n8_ n9_ n10_
    have hHeld : w21.cell? ⟨gb1608, 0, none⟩ = some (.int .i64 a0_0) ∧ w21.cell? ⟨gb1608, 1, none⟩ = some (.slice A0_1 l0_1.length c0_1) ∧ w21.cell? ⟨gb1608, 2, none⟩ = some (.slice A0_2 l0_2.length c0_2) := hS_
    obtain ⟨Ao22, co22, eo22⟩ := Kd.R_slice HO1614.out
    (first | subst eo22 | (injection eo22 with f1_ f2_ f3_; have f4_ := f1_.symm; have f5_ := f3_.symm; clear f1_ f2_ f3_; subst f4_; subst f5_))
    refine norm_ (a' := ?_) ?_ ?_
    rotate_left
    ·simp only [putAll, Act.put, ls, lz, ln]
     rfl
    (try rw [hz0])
    (try rw [hz1])
    (try rw [hz2])
    refine on_ 10 (some 24) (bl 14 6143) HT_ (fun K hK => ?_)
    refine gS Try.func80 #[.int .i64 t1611, .slice Ao22 t1612.length co22] ?_
    with_reducible refine (impl_field_roots.calls k t1611 _ _ t1612 t1616 _ ?side1 ?side2 A7.out).mono ?_
    (case side1 => exact uC ((Kd.R_reads' HO1614.out).2.2))
    (case side2 => exact (Kd.R_reads' HO1614.out).2.1)
    rintro e w23 ⟨v1617, rfl, ho0, hb⟩
    refine ⟨_, rfl, ?_⟩
    have HO1618 := zA (Kd.R_lower (Kd.R_new' ho0 (Kd.R_lt (uR HO1614.out))) (below_size (uH HB.out)))
    replace HO1614 := zA (Kd.R_elder' (uR HO1614.out) (Kd.R_base ho0) hb)
    replace BK1608 := xB BK1608 hb
    replace BK1609 := xB BK1609 hb
    replace BK1619 := xB BK1619 hb
    replace HB := xH HB hb
    (try clear hb); (try clear hb2); (try clear hk); (try clear hi); (try clear ho0)
    obtain ⟨Ao24, co24, eo24⟩ := Kd.R_slice HO1618.out
    (first | subst eo24 | (injection eo24 with f1_ f2_ f3_; have f4_ := f1_.symm; have f5_ := f3_.symm; clear f1_ f2_ f3_; subst f4_; subst f5_))
    refine hK.out _ _ ⟨bcu BK1608 0, bcu BK1608 1, bcu BK1608 2⟩ (fun hHeld => ?_)
    clear hK K
    refine no_ 24 ?_
    refine pu_ 11 25 (bl 14 8191) HT_ ?_
    exact norm_ (by first | (simp only [putAll, Act.put, ls, lz, ln]; done) | (simp only [putAll, Act.put, ls, lz, ln]; rfl)) (hJ3_5_7_10_12 (.tuple #[vz0, vz1, .slice Ao22 t1612.length co22], .slice Ao24 t1616.length co24, gb1619) _ ⟨hHeld, (uR (Kd.R_mono HO1614.out (fun _ hk => hk.2))), (uR (Kd.R_mono HO1618.out (fun _ hk => hk.2))), (uB BK1608.out), (uB BK1609.out), (uB BK1619.out), GW1619.out, GE1619.out, NB1608_1619.out, NB1619_1608.out, NB1609_1619.out, NB1619_1609.out, (uH HB.out)⟩)
  ·skip
   rintro ⟨vpk, v1617⟩ w23 ⟨hS_, h0_, h1_, h2_, h3_, h4_⟩
   obtain ⟨vz0, hz0⟩ : ∃ v_, prj vpk 0 = v_ := ⟨_, rfl⟩
   obtain ⟨vz1, hz1⟩ : ∃ v_, prj vpk 1 = v_ := ⟨_, rfl⟩
   obtain ⟨v1613, hz2⟩ : ∃ v_, prj vpk 2 = v_ := ⟨_, rfl⟩
   (try rw [hz2] at h0_)
   (try rw [hz2] at h1_)
   have n0_ : Aside0 (Kd.R (Kd.int .i64) 2 w23 w.heap.size (fun k_ => some k_ ≠ (v1617 : Value).ownBlock) v1613 t1612) := ⟨h0_⟩
   have n1_ : Aside0 (Kd.R (Kd.int .i64) 2 w23 w.heap.size (fun k_ => some k_ ≠ (v1613 : Value).ownBlock) v1617 t1616) := ⟨h1_⟩
   have n2_ : Aside0 (w23.heap[gb1608]? = some (.cells #[.int .i64 a0_0, .slice A0_1 l0_1.length c0_1, .slice A0_2 l0_2.length c0_2] 26 (0, 0))) := ⟨h2_⟩
   have n3_ : Aside0 (w23.heap[gb1609]? = some (.cells #[.int .i64 0, .slice none 0 0, .slice none 0 0] 37 (0, 0))) := ⟨h3_⟩
   have n4_ : Aside0 (Below w.heap.size w w23) := ⟨h4_⟩
   clear BK1608 BK1609 HB
   clear h0_ h1_ h2_ h3_ h4_
   have HO1614 := n0_
   have HO1618 := n1_
   have BK1608 := n2_
   have BK1609 := n3_
   have HB := n4_
   clear n0_ n1_ n2_ n3_ n4_
   have hHeld : w23.cell? ⟨gb1608, 0, none⟩ = some (.int .i64 a0_0) ∧ w23.cell? ⟨gb1608, 1, none⟩ = some (.slice A0_1 l0_1.length c0_1) ∧ w23.cell? ⟨gb1608, 2, none⟩ = some (.slice A0_2 l0_2.length c0_2) := hS_
   obtain ⟨Ao24, co24, eo24⟩ := Kd.R_slice HO1618.out
   (first | subst eo24 | (injection eo24 with f1_ f2_ f3_; have f4_ := f1_.symm; have f5_ := f3_.symm; clear f1_ f2_ f3_; subst f4_; subst f5_))
   refine norm_ (a' := ?_) ?_ ?_
   rotate_left
   ·simp only [putAll, Act.put, ls, lz, ln]
    rfl
   (try rw [hz0])
   (try rw [hz1])
   (try rw [hz2])
   refine on_ 12 (some 5) (bl 14 8191) HT_ (fun K hK => ?_)
   refine box_step ?hg (N := 5) ?hd (cs := #[.int .i64 0, .slice none 0 0, .slice none 0 0]) (t := 37) ?hr ?_; (case hd => rfl); (case hg => rfl); (case hr => first | (go_simp; done) | (go_simp; rfl))
   intro gb1619 hg w25 hbox hb
   replace HO1614 := xR HO1614 hb
   replace HO1618 := xR HO1618 hb
   have BK1619 := zA (hbox)
   have GW1619 := gq HB hg
   have GE1619 := gq HB hg
   replace HB := xH HB hb
   have NB1608_1619 := zA ((by rw [hg]; exact neL BK1608 : gb1608 ≠ gb1619))
   have NB1619_1608 := zA ((by rw [hg]; exact neG BK1608 : gb1619 ≠ gb1608))
   replace BK1608 := xB BK1608 hb
   have NB1609_1619 := zA ((by rw [hg]; exact neL BK1609 : gb1609 ≠ gb1619))
   have NB1619_1609 := zA ((by rw [hg]; exact neG BK1609 : gb1619 ≠ gb1609))
   replace BK1609 := xB BK1609 hb
   have := geI GE1619
   clear hb hbox hg
   refine hK.out _ _ ⟨bcu BK1608 0, bcu BK1608 1, bcu BK1608 2⟩ (fun hHeld => ?_)
   clear hK K
   refine no_ 5 ?_
   exact norm_ (by first | (simp only [putAll, Act.put, ls, lz, ln]; done) | (simp only [putAll, Act.put, ls, lz, ln]; rfl)) (hJ3_5_7_10_12 (.tuple #[vz0, vz1, v1613], .slice Ao24 t1616.length co24, gb1619) _ ⟨hHeld, (uR HO1614.out), (uR HO1618.out), (uB BK1608.out), (uB BK1609.out), (uB BK1619.out), GW1619.out, GE1619.out, NB1608_1619.out, NB1619_1608.out, NB1609_1619.out, NB1619_1609.out, (uH HB.out)⟩)
 rintro ⟨vpk, v1617, gb1619⟩ w24 ⟨hS_, h0_, h1_, h2_, h3_, h4_, h5_, h6_, h7_, h8_, h9_, h10_, h11_⟩
 obtain ⟨vz0, hz0⟩ : ∃ v_, prj vpk 0 = v_ := ⟨_, rfl⟩
 obtain ⟨vz1, hz1⟩ : ∃ v_, prj vpk 1 = v_ := ⟨_, rfl⟩
 obtain ⟨v1613, hz2⟩ : ∃ v_, prj vpk 2 = v_ := ⟨_, rfl⟩
 (try rw [hz2] at h0_)
 (try rw [hz2] at h1_)
 have n0_ : Aside0 (Kd.R (Kd.int .i64) 2 w24 w.heap.size (fun k_ => some k_ ≠ (v1617 : Value).ownBlock) v1613 t1612) := ⟨h0_⟩
 have n1_ : Aside0 (Kd.R (Kd.int .i64) 2 w24 w.heap.size (fun k_ => some k_ ≠ (v1613 : Value).ownBlock) v1617 t1616) := ⟨h1_⟩
 have n2_ : Aside0 (w24.heap[gb1608]? = some (.cells #[.int .i64 a0_0, .slice A0_1 l0_1.length c0_1, .slice A0_2 l0_2.length c0_2] 26 (0, 0))) := ⟨h2_⟩
 have n3_ : Aside0 (w24.heap[gb1609]? = some (.cells #[.int .i64 0, .slice none 0 0, .slice none 0 0] 37 (0, 0))) := ⟨h3_⟩
 have n4_ : Aside0 (w24.heap[gb1619]? = some (.cells #[.int .i64 0, .slice none 0 0, .slice none 0 0] 37 (0, 0))) := ⟨h4_⟩
 have n5_ : Aside0 (w.heap.size ≤ gb1619) := ⟨h5_⟩
 have n6_ : Aside0 (w.heap.size ≤ gb1619) := ⟨h6_⟩
 have n7_ : Aside0 (gb1608 ≠ gb1619) := ⟨h7_⟩
 have n8_ : Aside0 (gb1619 ≠ gb1608) := ⟨h8_⟩
 have n9_ : Aside0 (gb1609 ≠ gb1619) := ⟨h9_⟩
 have n10_ : Aside0 (gb1619 ≠ gb1609) := ⟨h10_⟩
 have n11_ : Aside0 (Below w.heap.size w w24) := ⟨h11_⟩
 clear BK1608 BK1609 HB
 clear h0_ h1_ h2_ h3_ h4_ h5_ h6_ h7_ h8_ h9_ h10_ h11_
 have HO1614 := n0_
 have HO1618 := n1_
 have BK1608 := n2_
 have BK1609 := n3_
 have BK1619 := n4_
 have GW1619 := n5_
 have GE1619 := n6_
 have := geI GE1619
 have NB1608_1619 := n7_
 have NB1619_1608 := n8_
 have NB1609_1619 := n9_
 have NB1619_1609 := n10_
 have HB := n11_
 clear n0_ n1_ n2_ n3_ n4_ n5_ n6_ n7_ n8_ n9_ n10_ n11_
 have hHeld : w24.cell? ⟨gb1608, 0, none⟩ = some (.int .i64 a0_0) ∧ w24.cell? ⟨gb1608, 1, none⟩ = some (.slice A0_1 l0_1.length c0_1) ∧ w24.cell? ⟨gb1608, 2, none⟩ = some (.slice A0_2 l0_2.length c0_2) := hS_
 obtain ⟨Ao25, co25, eo25⟩ := Kd.R_slice HO1618.out
 (first | subst eo25 | (injection eo25 with f1_ f2_ f3_; have f4_ := f1_.symm; have f5_ := f3_.symm; clear f1_ f2_ f3_; subst f4_; subst f5_))
 refine norm_ (a' := ?_) ?_ ?_
 rotate_left
 ·simp only [putAll, Act.put, ls, lz, ln]
  rfl
 (try rw [hz0])
 (try rw [hz1])
 (try rw [hz2])
 refine on_ 13 (none) (bl 14 16383) HT_ (fun K hK => ?_)
 have hs26 : w24.cell? ⟨gb1619, 0, none⟩ = some (.int .i64 0) := (blk_cell BK1619.out 0).trans rfl
 have hfs26 := bf BK1619 0
 have hns26_0 := NB1608_1619.out; have hns26_1 := NB1609_1619.out; have hms26_0 := NB1619_1608.out; have hms26_1 := NB1619_1609.out
 have hs27 : w24.cell? ⟨gb1619, 1, none⟩ = some (.slice none 0 0) := (blk_cell BK1619.out 1).trans rfl
 have hfs27 := bf BK1619 1
 have hns27_0 := NB1608_1619.out; have hns27_1 := NB1609_1619.out; have hms27_0 := NB1619_1608.out; have hms27_1 := NB1619_1609.out
 have hs28 : w24.cell? ⟨gb1619, 2, none⟩ = some (.slice none 0 0) := (blk_cell BK1619.out 2).trans rfl
 have hfs28 := bf BK1619 2
 have hns28_0 := NB1608_1619.out; have hns28_1 := NB1609_1619.out; have hms28_0 := NB1619_1608.out; have hms28_1 := NB1619_1609.out
 refine skip_ (w1 := ?_) (by rfl) rfl ?_ ?_
 rotate_left
 ·go_simp
  rfl
 refine hK.out _ _ ⟨((cell_far (p := ⟨gb1619, _, none⟩) NB1608_1619.out _).trans (((cell_far (p := ⟨gb1619, _, none⟩) NB1608_1619.out _).trans (((cell_far (p := ⟨gb1619, _, none⟩) NB1608_1619.out _).trans (hHeld.1)))))), ((cell_far (p := ⟨gb1619, _, none⟩) NB1608_1619.out _).trans (((cell_far (p := ⟨gb1619, _, none⟩) NB1608_1619.out _).trans (((cell_far (p := ⟨gb1619, _, none⟩) NB1608_1619.out _).trans (hHeld.2.1)))))), ((cell_far (p := ⟨gb1619, _, none⟩) NB1608_1619.out _).trans (((cell_far (p := ⟨gb1619, _, none⟩) NB1608_1619.out _).trans (((cell_far (p := ⟨gb1619, _, none⟩) NB1608_1619.out _).trans (hHeld.2.2))))))⟩ (fun hHeld => ?_)
 clear hK K
 refine done_ (done_of HT_.out (by kernel_rfl)) ?_
 try go_wp2
 have n0_ : Aside0 (Kd.R (Kd.int .i64) 2 (((w24.setCell ⟨gb1619, 0, none⟩ (.int .i64 a0_0)).setCell ⟨gb1619, 1, none⟩ (.slice Ao25 t1616.length co25)).setCell ⟨gb1619, 2, none⟩ (.slice none 0 0)) w.heap.size (fun k_ => ax k_ (.slice Ao25 t1616.length co25)) v1613 t1612) := ⟨uR (rf3 HO1614 BK1619 (by decide) (.int .i64 a0_0) (.slice Ao25 t1616.length co25) (.slice none 0 0))⟩
 have n1_ : Aside0 (Kd.R (Kd.int .i64) 2 (((w24.setCell ⟨gb1619, 0, none⟩ (.int .i64 a0_0)).setCell ⟨gb1619, 1, none⟩ (.slice Ao25 t1616.length co25)).setCell ⟨gb1619, 2, none⟩ (.slice none 0 0)) w.heap.size (fun k_ => some k_ ≠ (v1613 : Value).ownBlock) (.slice Ao25 t1616.length co25) t1616) := ⟨uR (rf3 HO1618 BK1619 (by decide) (.int .i64 a0_0) (.slice Ao25 t1616.length co25) (.slice none 0 0))⟩
 have n2_ : Aside0 ((((w24.setCell ⟨gb1619, 0, none⟩ (.int .i64 a0_0)).setCell ⟨gb1619, 1, none⟩ (.slice Ao25 t1616.length co25)).setCell ⟨gb1619, 2, none⟩ (.slice none 0 0)).heap[gb1608]? = some (.cells #[.int .i64 a0_0, .slice A0_1 l0_1.length c0_1, .slice A0_2 l0_2.length c0_2] 26 (0, 0))) := ⟨by (repeat refine up1 ?_); refine blk_far ?_ NB1608_1619.out _; (repeat refine up1 ?_); refine blk_far ?_ NB1608_1619.out _; (repeat refine up1 ?_); refine blk_far ?_ NB1608_1619.out _; (repeat refine up1 ?_); exact BK1608.out⟩
 have n3_ : Aside0 ((((w24.setCell ⟨gb1619, 0, none⟩ (.int .i64 a0_0)).setCell ⟨gb1619, 1, none⟩ (.slice Ao25 t1616.length co25)).setCell ⟨gb1619, 2, none⟩ (.slice none 0 0)).heap[gb1609]? = some (.cells #[.int .i64 0, .slice none 0 0, .slice none 0 0] 37 (0, 0))) := ⟨by (repeat refine up1 ?_); refine blk_far ?_ NB1609_1619.out _; (repeat refine up1 ?_); refine blk_far ?_ NB1609_1619.out _; (repeat refine up1 ?_); refine blk_far ?_ NB1609_1619.out _; (repeat refine up1 ?_); exact BK1609.out⟩
 have n4_ : Aside0 ((((w24.setCell ⟨gb1619, 0, none⟩ (.int .i64 a0_0)).setCell ⟨gb1619, 1, none⟩ (.slice Ao25 t1616.length co25)).setCell ⟨gb1619, 2, none⟩ (.slice none 0 0)).heap[gb1619]? = some (.cells #[.int .i64 a0_0, .slice Ao25 t1616.length co25, .slice none 0 0] 37 (0, 0))) := ⟨by (repeat refine up1 ?_); refine blk_put (cs := #[.int .i64 a0_0, .slice Ao25 t1616.length co25, .slice none 0 0]) ?_ 2 _ rfl; (repeat refine up1 ?_); refine blk_put (cs := #[.int .i64 a0_0, .slice none 0 0, .slice none 0 0]) ?_ 1 _ rfl; (repeat refine up1 ?_); refine blk_put (cs := #[.int .i64 0, .slice none 0 0, .slice none 0 0]) ?_ 0 _ rfl; (repeat refine up1 ?_); exact BK1619.out⟩
 have n5_ : Aside0 (Below w.heap.size w (((w24.setCell ⟨gb1619, 0, none⟩ (.int .i64 a0_0)).setCell ⟨gb1619, 1, none⟩ (.slice Ao25 t1616.length co25)).setCell ⟨gb1619, 2, none⟩ (.slice none 0 0))) := ⟨uH HB.out⟩
 (try clear HO1614); (try clear HO1618); (try clear BK1608); (try clear BK1609); (try clear BK1619); (try clear HB)
 generalize (((w24.setCell ⟨gb1619, 0, none⟩ (.int .i64 a0_0)).setCell ⟨gb1619, 1, none⟩ (.slice Ao25 t1616.length co25)).setCell ⟨gb1619, 2, none⟩ (.slice none 0 0)) = w29 at n0_ n1_ n2_ n3_ n4_ n5_ ⊢
 have HO1614 := n0_
 have HO1618 := n1_
 have BK1608 := n2_
 have BK1609 := n3_
 have BK1619 := n4_
 have HB := n5_
 clear n0_ n1_ n2_ n3_ n4_ n5_
 replace HO1614 := zA (Kd.R_drew HO1614.out)
 replace HO1618 := zA (Kd.R_drew HO1618.out)
 replace BK1608 := zA (blk_drew BK1608.out)
 replace BK1609 := zA (blk_drew BK1609.out)
 replace BK1619 := zA (blk_drew BK1619.out)
 replace HB := zA (below_drew1 HB.out)
 refine start_ (n := 6) (S := fun w' => w'.cell? ⟨gb1619, 0, none⟩ = some (.int .i64 a0_0) ∧ w'.cell? ⟨gb1619, 1, none⟩ = some (.slice Ao25 t1616.length co25) ∧ w'.cell? ⟨gb1619, 2, none⟩ = some (.slice none 0 0) ∧ w'.cell? ⟨gb1608, 0, none⟩ = some (.int .i64 a0_0) ∧ w'.cell? ⟨gb1608, 1, none⟩ = some (.slice A0_1 l0_1.length c0_1) ∧ w'.cell? ⟨gb1608, 2, none⟩ = some (.slice A0_2 l0_2.length c0_2)) (ds := []) #[false, false, false, false, false, false] (by kernel_rfl) rfl rfl ⟨bcu BK1619 0, bcu BK1619 1, bcu BK1619 2, bcu BK1608 0, bcu BK1608 1, bcu BK1608 2⟩ (fun hHeld => ?_)
 generalize w29.drew = w30 at HO1614 HO1618 BK1608 BK1609 BK1619 HB hHeld ⊢
 refine pure_ (i := 0) (N := some 26) (v := ?_) (a' := ?_) (bl 6 1) rfl rfl (by kernel_rfl) (fun _ _ _ h => h) (Or.inl ⟨by rfl, ?_⟩) ?_ ?_
 rotate_left
 ·intro w'
  go_simp
  with_reducible rfl
 rotate_left
 ·simp only [Act.put, ls, lz, ln, i64_w, i32_w]
  rfl
 refine take_ (i := 1) (N := some 27) (v := ?_) (a' := ?_) (bl 6 3) rfl rfl (by kernel_rfl) (fun _ _ _ h => h) (Or.inl ⟨by rfl, ?_⟩) hHeld ?_ ?_
 rotate_left
 ·rintro w' ⟨s0, s1, s2, s3, s4, s5⟩
  go_simp
  with_reducible rfl
 rotate_left
 ·simp only [Act.put, ls, lz, ln, i64_w, i32_w]
  rfl
 refine take_ (i := 3) (N := some 29) (v := ?_) (a' := ?_) (bl 6 11) rfl rfl (by kernel_rfl) (fun _ _ _ h => h) (Or.inl ⟨by rfl, ?_⟩) hHeld ?_ ?_
 rotate_left
 ·rintro w' ⟨s0, s1, s2, s3, s4, s5⟩
  go_simp
  with_reducible rfl
 rotate_left
 ·simp only [Act.put, ls, lz, ln, i64_w, i32_w]
  rfl
 refine one_ (i := 2) (N := some 28) (bl 6 15) rfl rfl (by kernel_rfl) (by decide) (fun K hK => ?_)
 refine gS Try.func71 #[.slice Ao25 t1616.length co25] ?_
 with_reducible refine (impl_length_int64.calls _ _ t1616 t1620 _ ?side1 ?side2 A8.out).mono ?_
 (case side1 => exact uC ((Kd.R_reads' HO1618.out).2.2))
 (case side2 => exact (Kd.R_reads' HO1618.out).2.1)
 rintro e w' ⟨rfl, ⟨nd, rfl⟩⟩
 refine ⟨_, rfl, ?_⟩
 refine hK.out _ _ ⟨bcu BK1619 0, bcu BK1619 1, bcu BK1619 2, bcu BK1608 0, bcu BK1608 1, bcu BK1608 2⟩ (fun hHeld => ?_)
 clear hK K
 refine no_ 28 ?_
 refine one_ (i := 4) (N := some 30) (bl 6 31) rfl rfl (by kernel_rfl) (by decide) (fun K hK => ?_)
 refine gS Try.func59 #[.agg #[.int .i64 a0_0, .slice A0_1 l0_1.length c0_1, .slice A0_2 l0_2.length c0_2]] ?_
 with_reducible refine (impl_Jacobi_size.calls a0_0 _ _ l0_1 _ _ l0_2 t1621 _ ?side1 ?side2 ?side3 ?side4 A9.out).mono ?_
 (case side1 => repeat (first | exact (Kd.C_below HR0_1.out (uH HB.out)) | (with_reducible refine Kd.C_alloc ?_ _) | (with_reducible refine Kd.C_drewN ?_ _) | (with_reducible refine Kd.C_drew ?_)))
 (case side2 => exact HC0_1.out)
 (case side3 => repeat (first | exact (Kd.C_below HR0_2.out (uH HB.out)) | (with_reducible refine Kd.C_alloc ?_ _) | (with_reducible refine Kd.C_drewN ?_ _) | (with_reducible refine Kd.C_drew ?_)))
 (case side4 => exact HC0_2.out)
 rintro e w31 ⟨rfl, hb⟩
 refine ⟨_, rfl, ?_⟩
 replace HO1614 := xR HO1614 hb
 replace HO1618 := xR HO1618 hb
 replace BK1608 := xB BK1608 hb
 replace BK1609 := xB BK1609 hb
 replace BK1619 := xB BK1619 hb
 replace HB := xH HB hb
 (try clear hb); (try clear hb2); (try clear hk); (try clear hi)
 refine hK.out _ _ ⟨bcu BK1619 0, bcu BK1619 1, bcu BK1619 2, bcu BK1608 0, bcu BK1608 1, bcu BK1608 2⟩ (fun hHeld => ?_)
 clear hK K
 refine no_ 30 ?_
 refine pure_ (i := 5) (N := some 31) (v := ?_) (a' := ?_) (bl 6 63) rfl rfl (by kernel_rfl) (fun _ _ _ h => h) (Or.inl ⟨by rfl, ?_⟩) ?_ ?_
 rotate_left
 ·intro w'
  go_simp
  with_reducible rfl
 rotate_left
 ·simp only [Act.put, ls, lz, ln, i64_w, i32_w]
  rfl
 refine done_ (by kernel_rfl) ?_
 have hnb32 := NB1619_1608.out; have hnc32 := NB1608_1619.out; have hnb33 := NB1619_1609.out; have hnc33 := NB1609_1619.out
 have hcz34_0 := bc BK1619 0
 have hcz34_1 := bc BK1619 1
 have hcz34_2 := bc BK1619 2
 have hfz34_0 := bf BK1619 0
 have hfz34_1 := bf BK1619 1
 have hfz34_2 := bf BK1619 2
 try go_wp2
 go_loopg [36] k (fun kq v36 w' => ∃ (x36_1 : Int) (x1620002_1 : List Int) (u1620002 : Value), v36 = .int .i64 x36_1 ∧ Aside0 (impl_GaussRule.l0 kq t1616 (t1616.length : Int) x36_1 a0_0 l0_1 l0_2 a0_0 t1616 x1620002_1 = some (r1, r2, r3, r4)) ∧ Aside0 (kq ≤ k) ∧ Aside0 (Kd.R (Kd.int .i64) 2 w' w.heap.size (fun k_ => some k_ ≠ (u1620002 : Value).ownBlock) (.slice Ao25 t1616.length co25) t1616) ∧ Aside0 (Kd.R (Kd.int .i64) 2 w' w.heap.size (fun k_ => some k_ ≠ (u1620002 : Value).ownBlock) (.slice Ao25 t1616.length co25) t1616) ∧ Aside0 (Kd.R (Kd.int .i64) 2 w' w.heap.size (fun k_ => ax k_ (.slice Ao25 t1616.length co25) ∧ ax k_ (.slice Ao25 t1616.length co25)) u1620002 x1620002_1) ∧ Aside0 (w'.heap[gb1608]? = some (.cells #[.int .i64 a0_0, (.slice A0_1 l0_1.length c0_1), (.slice A0_2 l0_2.length c0_2)] 26 (0, 0))) ∧ Aside0 (w'.heap[gb1609]? = some (.cells #[.int .i64 0, (.slice none 0 0), (.slice none 0 0)] 37 (0, 0))) ∧ Aside0 (w'.heap[gb1619]? = some (.cells #[.int .i64 a0_0, (.slice Ao25 t1616.length co25), u1620002] 37 (0, 0))) ∧ Aside0 (Below w.heap.size w w'))
 case atStart => exact ⟨(0), (([] : List Int)), (.slice none 0 0), (by first | rfl | (simp; done) | (simp [*]; done)), H', ⟨Nat.le_refl _⟩, ⟨uR (Kd.R_mono HO1618.out (fun _ hk => (by simp [Value.ownBlock])))⟩, ⟨uR (Kd.R_mono HO1618.out (fun _ hk => (by simp [Value.ownBlock])))⟩, ⟨by first | exact Kd.R_nil _ _ _ _ _ | exact Kd.N_nil _ _ _ _ _ | exact Kd.V_nil _ _ _ _ _ | exact Kd.Q_nil _ _ _ _ _ | exact Kd.S_nil _ _ _ _ _⟩, ⟨uB BK1608.out⟩, ⟨uB BK1609.out⟩, ⟨uB BK1619.out⟩, ⟨uH HB.out⟩⟩
 case round =>
  clear H'
  (try clear p2);(try clear c3);(try clear c5);(try clear c7);(try clear c8);(try clear c32);(try clear c33);(try clear hcz34_0);(try clear hcz34_1);(try clear hcz34_2);(try clear hfz34_0);(try clear hfz34_1);(try clear hfz34_2)
  obtain ⟨x36_1, x1620002_1, u1620002, rfl, HA, HK1, HO_34, HO_1620001, HO_1620002, BK1608, BK1609, BK1619, HB⟩ := hrel
  cases gk with
  | zero => exact absurd HA.out (by simp [impl_GaussRule.l0])
  | succ k1 =>
   have H := HA.out
   clear HA
   simp only [impl_GaussRule.l0] at H
   by_cases c35 : x36_1 < (t1616.length : Int)
   rotate_left
   ·rw [if_neg c35] at H
    have c35b0 : decide (x36_1 < (t1616.length : Int)) = false := decide_eq_false c35
    clear c35
    simp only [Option.some.injEq, Prod.mk.injEq] at H
    obtain ⟨rfl, rfl, rfl, rfl⟩ := H
    have hnb45 := NB1619_1608.out; have hnc45 := NB1608_1619.out; have hnb46 := NB1619_1609.out; have hnc46 := NB1609_1619.out
    have hcz47_0 := bc BK1619 0
    have hcz47_1 := bc BK1619 1
    have hcz47_2 := bc BK1619 2
    have hfz47_0 := bf BK1619 0
    have hfz47_1 := bf BK1619 1
    have hfz47_2 := bf BK1619 2
    have hnb48 := NB1609_1608.out; have hnc48 := NB1608_1609.out
    have hcz49_0 := bc BK1609 0
    have hcz49_1 := bc BK1609 1
    have hcz49_2 := bc BK1609 2
    have hfz49_0 := bf BK1609 0
    have hfz49_1 := bf BK1609 1
    have hfz49_2 := bf BK1609 2
    obtain ⟨Ao50, co50, eo50⟩ := Kd.R_slice HO_1620002.out
    subst eo50
    go_wp2
    refine bodyPost_ret (results_ct rfl _ _ gb1609 37 #[.int .i64 a0_0, .slice Ao25 t1616.length co25, .slice Ao50 x1620002_1.length co50] (0, 0) _ rfl (by (repeat refine up1 ?_); refine blk_put (cs := #[.int .i64 a0_0, .slice Ao25 t1616.length co25, .slice none 0 0]) ?_ 2 _ rfl; (repeat refine up1 ?_); refine blk_put (cs := #[.int .i64 a0_0, .slice none 0 0, .slice none 0 0]) ?_ 1 _ rfl; (repeat refine up1 ?_); refine blk_put (cs := #[.int .i64 0, .slice none 0 0, .slice none 0 0]) ?_ 0 _ rfl; (repeat refine up1 ?_); exact BK1609.out) Try.underlying37 rfl (by kernel_rfl)) rfl ?_
    exact ⟨_, _, by first | rfl | (simp [errW_none, errW_some] <;> rfl) | (simp [*, errW_none, errW_some] <;> rfl), uR (rf3 HO_1620001 BK1609 (by decide) (.int .i64 a0_0) (.slice Ao25 t1616.length co25) (.slice Ao50 x1620002_1.length co50)), uR (Kd.R_mono (Kd.R_far (p := ⟨gb1609, 2, none⟩) (Kd.R_far (p := ⟨gb1609, 1, none⟩) (Kd.R_far (p := ⟨gb1609, 0, none⟩) (Kd.R_types HO_1620002.out BK1609.out (by decide)) (fun _ hk => hk.2) (.int .i64 a0_0)) (fun _ hk => hk.2) (.slice Ao25 t1616.length co25)) (fun _ hk => hk.2) (.slice Ao50 x1620002_1.length co50)) (fun _ hk => hk.1.2)), uH HB.out⟩
   rw [if_pos c35] at H
   have c35b0 : decide (x36_1 < (t1616.length : Int)) = true := decide_eq_true c35
   clear c35
   by_cases c36 : 0 ≤ x36_1
   rotate_left
   ·rw [if_neg c36] at H
    exact absurd H (by simp)
   rw [if_pos c36] at H
   have c36b0 : decide (0 ≤ x36_1) = true := decide_eq_true c36
   clear c36
   by_cases c37 : x36_1 < (t1616.length : Int)
   rotate_left
   ·rw [if_neg c37] at H
    exact absurd H (by simp)
   rw [if_pos c37] at H
   have c37b0 : decide (x36_1 < (t1616.length : Int)) = true := decide_eq_true c37
   clear c37
   replace H := Option.bind_eq_some_iff.mp H
   obtain ⟨t1623, A380, H⟩ := H
   replace H : (if x1620002_1.length < 17592186044416 then (impl_GaussRule.l0 k1 t1616 (t1616.length : Int) (wrap64 (x36_1 + 1)) a0_0 l0_1 l0_2 a0_0 t1616 (x1620002_1 ++ [t1623])) else (none)) = some (r1, r2, r3, r4) := H
   have A38 := zA A380
   clear A380
   by_cases c39 : x1620002_1.length < 17592186044416
   rotate_left
   ·rw [if_neg c39] at H
    exact absurd H (by simp)
   rw [if_pos c39] at H
   have LMc39 := zA c39
   clear c39
   obtain ⟨y1624, hy1624⟩ : ∃ y_ : List Int, y_ = (x1620002_1 ++ [t1623]) := ⟨_, rfl⟩
   replace H : (impl_GaussRule.l0 k1 t1616 (t1616.length : Int) (wrap64 (x36_1 + 1)) a0_0 l0_1 l0_2 a0_0 t1616 y1624) = some (r1, r2, r3, r4) := by first | (rw [hy1624]; exact H) | exact H
   have Ny1624 := zA hy1624
   clear hy1624
   have H' := zA H
   clear H
   have p1622 : 0 ≤ (x36_1 : Int) := of_decide_eq_true (by first | (with_reducible assumption) | assumption)
   have q1622 : x36_1 < (t1616.length : Int) := of_decide_eq_true (by first | (with_reducible assumption) | assumption)
   obtain ⟨ad1622, e1622, hx1622_0⟩ := Kd.at_int (Kd.R_reads' HO_34.out).2.2 x36_1 p1622 q1622
   cases e1622
   replace p1622 := eq_true p1622
   replace q1622 := eq_true q1622
   try go_wp2
   replace HO_34 := zA (Kd.R_drew HO_34.out)
   replace HO_1620001 := zA (Kd.R_drew HO_1620001.out)
   replace HO_1620002 := zA (Kd.R_drew HO_1620002.out)
   replace BK1608 := zA (blk_drew BK1608.out)
   replace BK1609 := zA (blk_drew BK1609.out)
   replace BK1619 := zA (blk_drew BK1619.out)
   replace HB := zA (below_drew1 HB.out)
   refine start_ (n := 9) (S := fun w' => w'.cell? ⟨gb1619, 0, none⟩ = some (.int .i64 a0_0) ∧ w'.cell? ⟨gb1619, 1, none⟩ = some (.slice (some ad1622) t1616.length co25) ∧ w'.cell? ⟨gb1619, 2, none⟩ = some (u1620002) ∧ w'.cell? ⟨gb1608, 0, none⟩ = some (.int .i64 a0_0) ∧ w'.cell? ⟨gb1608, 1, none⟩ = some (.slice A0_1 l0_1.length c0_1) ∧ w'.cell? ⟨gb1608, 2, none⟩ = some (.slice A0_2 l0_2.length c0_2)) (ds := [8]) #[false, false, false, false, false, false, false, false, false] (by kernel_rfl) rfl rfl ⟨bcu BK1619 0, bcu BK1619 1, bcu BK1619 2, bcu BK1608 0, bcu BK1608 1, bcu BK1608 2⟩ (fun hHeld => ?_); refine with_tabW impl_GaussRule.tab10 impl_GaussRule.bits10 (fun HT_ HW_ => ?_)
   generalize wr.drew = w40 at HO_34 HO_1620001 HO_1620002 BK1608 BK1609 BK1619 HB hHeld ⊢
   refine pu_ 0 40 (bl 9 1) HT_ ?_
   refine pu_ 3 43 (bl 9 9) HT_ ?_
   refine ta_ 1 41 (bl 9 11) HT_ HW_ hHeld ?_
   refine ta_ 2 42 (bl 9 15) HT_ HW_ hHeld ?_
   refine on_ 4 (some 44) (bl 9 31) HT_ (fun K hK => ?_)
   refine gS Try.func82 #[.agg #[.int .i64 a0_0, .slice A0_1 l0_1.length c0_1, .slice A0_2 l0_2.length c0_2], .int .i64 (rd t1616 x36_1)] ?_
   with_reducible refine (impl_Jacobi_christoffel.calls k1 a0_0 _ _ l0_1 _ _ l0_2 (rd t1616 x36_1) t1623 _ ?side1 ?side2 ?side3 ?side4 A38.out).mono ?_
   (case side1 => exact uC ((Kd.C_below HR0_1.out HB.out)))
   (case side2 => exact HC0_1.out)
   (case side3 => exact uC ((Kd.C_below HR0_2.out HB.out)))
   (case side4 => exact HC0_2.out)
   rintro e w41 ⟨rfl, hb⟩
   refine ⟨_, rfl, ?_⟩
   replace HO_34 := xR HO_34 hb
   replace HO_1620001 := xR HO_1620001 hb
   replace HO_1620002 := xR HO_1620002 hb
   replace BK1608 := xB BK1608 hb
   replace BK1609 := xB BK1609 hb
   replace BK1619 := xB BK1619 hb
   replace HB := xH HB hb
   (try clear hb); (try clear hb2); (try clear hk); (try clear hi)
   refine hK.out _ _ ⟨bcu BK1619 0, bcu BK1619 1, bcu BK1619 2, bcu BK1608 0, bcu BK1608 1, bcu BK1608 2⟩ (fun hHeld => ?_)
   clear hK K
   refine no_ 44 ?_
   refine on_ 5 (some 45) (bl 9 63) HT_ (fun K hK => ?_)
   refine value_ (w1 := ?_) (v := ?_) (by rfl) rfl ?_ ?_
   rotate_left 2
   ·go_simp
    constructor
    ·rfl
    ·rfl
   refine hK.out _ _ ⟨(blk_cell (blk_alloc BK1619.out _) 0).trans rfl, (blk_cell (blk_alloc BK1619.out _) 1).trans rfl, (blk_cell (blk_alloc BK1619.out _) 2).trans rfl, (blk_cell (blk_alloc BK1608.out _) 0).trans rfl, (blk_cell (blk_alloc BK1608.out _) 1).trans rfl, (blk_cell (blk_alloc BK1608.out _) 2).trans rfl⟩ (fun hHeld => ?_)
   clear hK K
   refine no_ 45 ?_
   refine on_ 6 (some 46) (bl 9 127) HT_ (fun K hK => ?_)
   refine Kd.R_append_step (Kd.int .i64) (w0 := w) w.heap.size (by rfl) (.tmp 41) (.tmp 45) 22 2 (.int .i64 0) 8 rfl Try.underlying22 info2 rfl (by decide) (by omega) u1620002 x1620002_1 t1623 [.int .i64 t1623] (fun k_ => ax k_ (.slice (some ad1622) t1616.length co25) ∧ ax k_ (.slice (some ad1622) t1616.length co25)) (fun _ => False) rfl rfl ?aP (fun _ hk => hk.elim) ?aF ?aO ?aB ?aS ?aL ?_
   (case aP => exact rfl)
   (case aB => exact (uH HB.out))
   (case aF => exact (fun k_ hk => ⟨Kd.fresh' (Kd.R_lt (uR HO_34.out)) k_ hk, Kd.fresh' (Kd.R_lt (uR HO_1620001.out)) k_ hk⟩))
   (case aO => exact (uR HO_1620002.out))
   (case aS => exact (below_size (uH HB.out)))
   (case aL => have := LMc39.out; omega)
   intro v1625 w42 ho hb hg hat
   rw [← Ny1624.out] at ho
   replace HO_34 := zA (Kd.R_after (ok := (fun _ => True)) (uR (Kd.R_mono HO_34.out (fun _ hk => ⟨trivial, hk⟩))) hg hat)
   replace HO_1620001 := zA (Kd.R_after (ok := (fun _ => True)) (uR (Kd.R_mono HO_1620001.out (fun _ hk => ⟨trivial, hk⟩))) hg hat)
   replace BK1608 := zA (blk_grown (g := gb1608) (o := .cells #[.int .i64 a0_0, .slice A0_1 l0_1.length c0_1, .slice A0_2 l0_2.length c0_2] 26 (0, 0)) (uB BK1608.out) hg (Kd.R_ne HO_1620002.out BK1608.out (by decide)))
   replace BK1609 := zA (blk_grown (g := gb1609) (o := .cells #[.int .i64 0, .slice none 0 0, .slice none 0 0] 37 (0, 0)) (uB BK1609.out) hg (Kd.R_ne HO_1620002.out BK1609.out (by decide)))
   replace BK1619 := zA (blk_grown (g := gb1619) (o := .cells #[.int .i64 a0_0, .slice (some ad1622) t1616.length co25, u1620002] 37 (0, 0)) (uB BK1619.out) hg (Kd.R_ne HO_1620002.out BK1619.out (by decide)))
   replace HB := zA (hb)
   have HO1626 := zA (ho)
   clear HO_1620002
   clear ho hb hg hat
   obtain ⟨Ao43, co43, eo43⟩ := Kd.R_slice HO1626.out
   (first | subst eo43 | (injection eo43 with f1_ f2_ f3_; have f4_ := f1_.symm; have f5_ := f3_.symm; clear f1_ f2_ f3_; subst f4_; subst f5_))
   refine hK.out _ _ ⟨bcu BK1619 0, bcu BK1619 1, bcu BK1619 2, bcu BK1608 0, bcu BK1608 1, bcu BK1608 2⟩ (fun hHeld => ?_)
   clear hK K
   refine no_ 46 ?_
   refine pu_ 7 47 (bl 9 255) HT_ ?_
   refine last_ (i := 8) (N := none) (bl 9 511) rfl rfl (one_of HT_.out (by kernel_rfl)) (by decide) (fun K hK => ?_)
   have hs44 : w42.cell? ⟨gb1619, 2, none⟩ = some (u1620002) := (blk_cell BK1619.out 2).trans rfl
   have hfs44 := bf BK1619 2
   have hns44_0 := NB1608_1619.out; have hns44_1 := NB1609_1619.out; have hms44_0 := NB1619_1608.out; have hms44_1 := NB1619_1609.out
   refine skip_ (w1 := ?_) (by rfl) rfl ?_ ?_
   rotate_left
   ·go_simp
    rfl
   refine hK.out _ _ ?_
   clear hK K
   refine done_ (done_of HT_.out (by kernel_rfl)) ?_
   try go_wp2
   go_roundg k1
   case measure => have := HK1.out; omega
   case rel => exact ⟨(wrap64 (x36_1 + 1)), (y1624), (.slice Ao43 y1624.length co43), (by first | rfl | (simp; done) | (simp [*]; done)), H', ⟨by have := HK1.out; omega⟩, ⟨uR (Kd.R_mono (Kd.R_far (p := ⟨gb1619, 2, none⟩) (Kd.R_types HO_34.out BK1619.out (by decide)) (fun _ hk => hk.2) (.slice Ao43 y1624.length co43)) (fun _ hk => hk.1.2))⟩, ⟨uR (Kd.R_mono (Kd.R_far (p := ⟨gb1619, 2, none⟩) (Kd.R_types HO_1620001.out BK1619.out (by decide)) (fun _ hk => hk.2) (.slice Ao43 y1624.length co43)) (fun _ hk => hk.1.2))⟩, ⟨uR (Kd.R_mono (Kd.R_far (p := ⟨gb1619, 2, none⟩) (Kd.R_types HO1626.out BK1619.out (by decide)) (fun _ hk => hk.2) (.slice Ao43 y1624.length co43)) (fun _ hk => ⟨hk.1.1, hk.1.2⟩))⟩, ⟨by (repeat refine up1 ?_); refine blk_far ?_ NB1608_1619.out _; (repeat refine up1 ?_); exact BK1608.out⟩, ⟨by (repeat refine up1 ?_); refine blk_far ?_ NB1609_1619.out _; (repeat refine up1 ?_); exact BK1609.out⟩, ⟨by (repeat refine up1 ?_); refine blk_put (cs := #[.int .i64 a0_0, .slice (some ad1622) t1616.length co25, u1620002]) ?_ 2 _ rfl; (repeat refine up1 ?_); exact BK1619.out⟩, ⟨uH HB.out⟩⟩
end Go.Proofs.Ytfbnkebgdmfcfaa.Pr
