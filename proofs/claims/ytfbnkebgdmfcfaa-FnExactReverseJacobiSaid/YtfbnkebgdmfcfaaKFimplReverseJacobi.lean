/- Printed by a program of this session out of the translation: what these functions of the program compute, under the conditions that each theorem names. -/
import Derived.Test.YtfbnkebgdmfcfaaKReverseJacobi1
import Derived.Test.YtfbnkebgdmfcfaaKReverseJacobi4
import Derived.Test.YtfbnkebgdmfcfaaKReverseJacobi5
namespace Go.Proofs.Ytfbnkebgdmfcfaa.Pr
open Go.RowKit Go.Proofs.YtfbnkebgdmfcfaaW.PrintWords Go.Proofs.YtfbnkebgdmfcfaaW.PrintLast Go.Proofs.YtfbnkebgdmfcfaaW.PrintMore
attribute [local go_sem] max2_int min2_int max_two min_two max_three min_three max_four min_four   -- for this text's walks alone
set_option linter.unusedVariables false
set_option linter.unusedSimpArgs false

/-! ### impl_ReverseJacobi: function 18 -/
def impl_ReverseJacobi.f (k : Nat) (a0_0 : Int) (l0_1 : List Int) (l0_2 : List Int) : Option (Int × List Int × List Int × Int) := (impl_jacobiCode.f k a0_0 l0_1 l0_2 true).bind fun t1207 => (if t1207 = 0 then ((impl_Jacobi_size.f a0_0 l0_1 l0_2).bind fun t1208 => ((impl_Jacobi_part.f a0_0 l0_1 l0_2 0 t1208).bind fun bt1209 => ((slices_Reverse_ints.f bt1209.2.1).bind fun t1217 => ((slices_ReverseTail.f bt1209.2.2).bind fun t1218 => (some (bt1209.1, t1217, t1218, 0)))))) else (some (0, ([] : List Int), ([] : List Int), t1207)))
set_option maxHeartbeats 8000000 in
set_option maxRecDepth 100000 in
theorem impl_ReverseJacobi.calls (k : Nat) (a0_0 : Int) (A0_1 : Option Addr) (c0_1 : Nat) (l0_1 : List Int) (A0_2 : Option Addr) (c0_2 : Nat) (l0_2 : List Int) (r1 : Int) (r2 : List Int) (r3 : List Int) (r4 : Int) (w : World) (hr0_1 : Kd.C (Kd.int .i64) w A0_1 l0_1.length l0_1) (hc0_1 : l0_1.length ≤ c0_1) (hr0_2 : Kd.C (Kd.int .i64) w A0_2 l0_2.length l0_2) (hc0_2 : l0_2.length ≤ c0_2) (h : impl_ReverseJacobi.f k a0_0 l0_1 l0_2 = some (r1, r2, r3, r4)) :
  Calls Try.prog 18 #[.agg #[.int .i64 a0_0, .slice A0_1 l0_1.length c0_1, .slice A0_2 l0_2.length c0_2]] w fun e w' => ∃ v1_ v2_ : Value, e = .returned (.tuple #[.agg #[.int .i64 r1, v1_, v2_], .int .i64 r4]) ∧ Kd.R (Kd.int .i64) 2 w' w.heap.size (fun k_ => some k_ ≠ (v2_ : Value).ownBlock) v1_ r2 ∧ Kd.R (Kd.int .i64) 2 w' w.heap.size (fun k_ => some k_ ≠ (v1_ : Value).ownBlock) v2_ r3 ∧ Below w.heap.size w w' := by
 have hu26 := Try.underlying26
 have HR0_1 := zA hr0_1
 have HC0_1 := zA hc0_1
 clear hr0_1 hc0_1
 have HR0_2 := zA hr0_2
 have HC0_2 := zA hc0_2
 clear hr0_2 hc0_2
 have HB := zA (Below.refl w.heap.size w)
 have H : ((impl_jacobiCode.f k a0_0 l0_1 l0_2 true).bind fun t1207 => (if t1207 = 0 then ((impl_Jacobi_size.f a0_0 l0_1 l0_2).bind fun t1208 => ((impl_Jacobi_part.f a0_0 l0_1 l0_2 0 t1208).bind fun bt1209 => ((slices_Reverse_ints.f bt1209.2.1).bind fun t1217 => ((slices_ReverseTail.f bt1209.2.2).bind fun t1218 => (some (bt1209.1, t1217, t1218, 0)))))) else (some (0, ([] : List Int), ([] : List Int), t1207)))) = some (r1, r2, r3, r4) := h
 clear h
 replace H := Option.bind_eq_some_iff.mp H
 obtain ⟨t1207, A20, H⟩ := H
 replace H : (if t1207 = 0 then ((impl_Jacobi_size.f a0_0 l0_1 l0_2).bind fun t1208 => ((impl_Jacobi_part.f a0_0 l0_1 l0_2 0 t1208).bind fun bt1209 => ((slices_Reverse_ints.f bt1209.2.1).bind fun t1217 => ((slices_ReverseTail.f bt1209.2.2).bind fun t1218 => (some (bt1209.1, t1217, t1218, 0)))))) else (some (0, ([] : List Int), ([] : List Int), t1207))) = some (r1, r2, r3, r4) := H
 have A2 := zA A20
 clear A20
 by_cases c3 : t1207 = 0
 rotate_left
 ·rw [if_neg c3] at H
  have c3b0 : (t1207 == 0) = false := beq_eq_false_iff_ne.mpr c3
  have c3b1 : (t1207 != 0) = true := bne_iff_ne.mpr c3
  simp only [Option.some.injEq, Prod.mk.injEq] at H
  obtain ⟨rfl, rfl, rfl, rfl⟩ := H
  go_enter Try.func18, Try.ntmps18
  go_wp2_with (first | ((with_reducible refine gate_dst (N := 1) rfl ?_); refine bx 1 #[.int .i64 a0_0, .slice A0_1 l0_1.length c0_1, .slice A0_2 l0_2.length c0_2] 26 ?_; intro gb1205 hg w32 hbox hb; have BK1205 := zA (hbox); have GW1205 := gq HB hg; have GE1205 := gq HB hg; replace HB := xH HB hb; have := geI GE1205; clear hb hbox hg) | ((with_reducible refine gate_dst (N := 2) rfl ?_); refine bx 2 #[.int .i64 0, .slice none 0 0, .slice none 0 0] 26 ?_; intro gb1206 hg w33 hbox hb; have BK1206 := zA (hbox); have GW1206 := gq HB hg; have GE1206 := gq HB hg; replace HB := xH HB hb; have NB1205_1206 := zA ((by rw [hg]; exact neL BK1205 : gb1205 ≠ gb1206)); have NB1206_1205 := zA ((by rw [hg]; exact neG BK1205 : gb1206 ≠ gb1205)); replace BK1205 := xB BK1205 hb; have := geI GE1206; clear hb hbox hg; have hnb34 := NB1205_1206.out; have hnc34 := NB1206_1205.out; have hcz35_0 := bc BK1205 0; have hcz35_1 := bc BK1205 1; have hcz35_2 := bc BK1205 2; have hfz35_0 := bf BK1205 0; have hfz35_1 := bf BK1205 1; have hfz35_2 := bf BK1205 2) | ((with_reducible refine gate_callee (f := 57) rfl ?_); refine gL (some 7) Try.func57 #[.agg #[.int .i64 a0_0, .slice A0_1 l0_1.length c0_1, .slice A0_2 l0_2.length c0_2], .bool true] ?_; (with_reducible refine (impl_jacobiCode.calls k a0_0 _ _ l0_1 _ _ l0_2 true t1207 _ ?side1 ?side2 ?side3 ?side4 A2.out).mono ?_); (case side1 => exact uC ((Kd.C_below HR0_1.out HB.out))); (case side2 => exact HC0_1.out); (case side3 => exact uC ((Kd.C_below HR0_2.out HB.out))); (case side4 => exact HC0_2.out); rintro e w36 ⟨rfl, hb⟩; refine ⟨_, rfl, ?_⟩; replace BK1205 := xB BK1205 hb; replace BK1206 := xB BK1206 hb; replace HB := xH HB hb; (try clear hb); (try clear hb2); (try clear hk); (try clear hi); have hcz37_0 := bc BK1206 0; have hcz37_1 := bc BK1206 1; have hcz37_2 := bc BK1206 2; have hfz37_0 := bf BK1206 0; have hfz37_1 := bf BK1206 1; have hfz37_2 := bf BK1206 2))
  refine bodyPost_ret (results_ct rfl _ _ gb1206 26 #[.int .i64 0, .slice none 0 0, .slice none 0 0] (0, 0) _ rfl (by (repeat refine up1 ?_); refine blk_put (cs := #[.int .i64 0, .slice none 0 0, .slice none 0 0]) ?_ 2 _ rfl; (repeat refine up1 ?_); refine blk_put (cs := #[.int .i64 0, .slice none 0 0, .slice none 0 0]) ?_ 1 _ rfl; (repeat refine up1 ?_); refine blk_put (cs := #[.int .i64 0, .slice none 0 0, .slice none 0 0]) ?_ 0 _ rfl; (repeat refine up1 ?_); exact BK1206.out) Try.underlying26 rfl (by kernel_rfl)) rfl ?_
  exact ⟨_, _, by first | rfl | (simp [errW_none, errW_some] <;> rfl) | (simp [*, errW_none, errW_some] <;> rfl), by first | exact Kd.R_nil _ _ _ _ _ | exact Kd.N_nil _ _ _ _ _ | exact Kd.V_nil _ _ _ _ _ | exact Kd.Q_nil _ _ _ _ _ | exact Kd.S_nil _ _ _ _ _, by first | exact Kd.R_nil _ _ _ _ _ | exact Kd.N_nil _ _ _ _ _ | exact Kd.V_nil _ _ _ _ _ | exact Kd.Q_nil _ _ _ _ _ | exact Kd.S_nil _ _ _ _ _, uH HB.out⟩

 rw [if_pos c3] at H
 have c3b0 : (t1207 == 0) = true := beq_iff_eq.mpr c3
 have c3b1 : (t1207 != 0) = false := bne_eq_false_iff_eq.mpr c3
 clear c3
 replace H := Option.bind_eq_some_iff.mp H
 obtain ⟨t1208, A40, H⟩ := H
 replace H : ((impl_Jacobi_part.f a0_0 l0_1 l0_2 0 t1208).bind fun bt1209 => ((slices_Reverse_ints.f bt1209.2.1).bind fun t1217 => ((slices_ReverseTail.f bt1209.2.2).bind fun t1218 => (some (bt1209.1, t1217, t1218, 0))))) = some (r1, r2, r3, r4) := H
 have A4 := zA A40
 clear A40
 replace H := Option.bind_eq_some_iff.mp H
 obtain ⟨⟨t1209, t1210, t1213⟩, A50, H⟩ := H
 replace H : ((slices_Reverse_ints.f t1210).bind fun t1217 => ((slices_ReverseTail.f t1213).bind fun t1218 => (some (t1209, t1217, t1218, 0)))) = some (r1, r2, r3, r4) := H
 have A5 := zA A50
 clear A50
 replace H := Option.bind_eq_some_iff.mp H
 obtain ⟨t1217, A60, H⟩ := H
 replace H : ((slices_ReverseTail.f t1213).bind fun t1218 => (some (t1209, t1217, t1218, 0))) = some (r1, r2, r3, r4) := H
 have A6 := zA A60
 clear A60
 replace H := Option.bind_eq_some_iff.mp H
 obtain ⟨t1218, A70, H⟩ := H
 replace H : (some (t1209, t1217, t1218, 0)) = some (r1, r2, r3, r4) := H
 have A7 := zA A70
 clear A70
 simp only [Option.some.injEq, Prod.mk.injEq] at H
 obtain ⟨rfl, rfl, rfl, rfl⟩ := H
 go_enter Try.func18, Try.ntmps18
 try go_wp2_with (first | ((with_reducible refine gate_dst (N := 1) rfl ?_); refine bx 1 #[.int .i64 a0_0, .slice A0_1 l0_1.length c0_1, .slice A0_2 l0_2.length c0_2] 26 ?_; intro gb1205 hg w8 hbox hb; have BK1205 := zA (hbox); have GW1205 := gq HB hg; have GE1205 := gq HB hg; replace HB := xH HB hb; have := geI GE1205; clear hb hbox hg) | ((with_reducible refine gate_dst (N := 2) rfl ?_); refine bx 2 #[.int .i64 0, .slice none 0 0, .slice none 0 0] 26 ?_; intro gb1206 hg w9 hbox hb; have BK1206 := zA (hbox); have GW1206 := gq HB hg; have GE1206 := gq HB hg; replace HB := xH HB hb; have NB1205_1206 := zA ((by rw [hg]; exact neL BK1205 : gb1205 ≠ gb1206)); have NB1206_1205 := zA ((by rw [hg]; exact neG BK1205 : gb1206 ≠ gb1205)); replace BK1205 := xB BK1205 hb; have := geI GE1206; clear hb hbox hg; have hnb10 := NB1205_1206.out; have hnc10 := NB1206_1205.out; have hcz11_0 := bc BK1205 0; have hcz11_1 := bc BK1205 1; have hcz11_2 := bc BK1205 2; have hfz11_0 := bf BK1205 0; have hfz11_1 := bf BK1205 1; have hfz11_2 := bf BK1205 2) | ((with_reducible refine gate_callee (f := 57) rfl ?_); refine gL (some 7) Try.func57 #[.agg #[.int .i64 a0_0, .slice A0_1 l0_1.length c0_1, .slice A0_2 l0_2.length c0_2], .bool true] ?_; (with_reducible refine (impl_jacobiCode.calls k a0_0 _ _ l0_1 _ _ l0_2 true t1207 _ ?side1 ?side2 ?side3 ?side4 A2.out).mono ?_); (case side1 => exact uC ((Kd.C_below HR0_1.out HB.out))); (case side2 => exact HC0_1.out); (case side3 => exact uC ((Kd.C_below HR0_2.out HB.out))); (case side4 => exact HC0_2.out); rintro e w12 ⟨rfl, hb⟩; refine ⟨_, rfl, ?_⟩; replace BK1205 := xB BK1205 hb; replace BK1206 := xB BK1206 hb; replace HB := xH HB hb; (try clear hb); (try clear hb2); (try clear hk); (try clear hi)))
 replace BK1205 := zA (blk_drew BK1205.out)
 replace BK1206 := zA (blk_drew BK1206.out)
 replace HB := zA (below_drew1 HB.out)
 refine start_ (n := 6) (S := fun w' => w'.cell? ⟨gb1205, 0, none⟩ = some (.int .i64 a0_0) ∧ w'.cell? ⟨gb1205, 1, none⟩ = some (.slice A0_1 l0_1.length c0_1) ∧ w'.cell? ⟨gb1205, 2, none⟩ = some (.slice A0_2 l0_2.length c0_2)) (ds := []) #[false, false, false, false, false, false] (by kernel_rfl) rfl rfl ⟨bcu BK1205 0, bcu BK1205 1, bcu BK1205 2⟩ (fun hHeld => ?_)
 generalize w12.drew = w13 at BK1205 BK1206 HB hHeld ⊢
 refine take_ (i := 0) (N := some 12) (v := ?_) (a' := ?_) (bl 6 1) rfl rfl (by kernel_rfl) (fun _ _ _ h => h) (Or.inl ⟨by rfl, ?_⟩) hHeld ?_ ?_
 rotate_left
 ·rintro w' ⟨s0, s1, s2⟩
  go_simp
  with_reducible rfl
 rotate_left
 ·simp only [Act.put, ls, lz, ln, i64_w, i32_w]
  rfl
 refine take_ (i := 1) (N := some 13) (v := ?_) (a' := ?_) (bl 6 3) rfl rfl (by kernel_rfl) (fun _ _ _ h => h) (Or.inl ⟨by rfl, ?_⟩) hHeld ?_ ?_
 rotate_left
 ·rintro w' ⟨s0, s1, s2⟩
  go_simp
  with_reducible rfl
 rotate_left
 ·simp only [Act.put, ls, lz, ln, i64_w, i32_w]
  rfl
 refine join_ (σ := Value × Value × Nat) 1 (bl 6 31) (fun s_ => [(14, .int .i64 t1208), (15, .agg #[.int .i64 t1209, s_.1, s_.2.1]), (5, .pointer (some ⟨s_.2.2, 0, none⟩))]) (fun s_ w' => (w'.cell? ⟨gb1205, 0, none⟩ = some (.int .i64 a0_0) ∧ w'.cell? ⟨gb1205, 1, none⟩ = some (.slice A0_1 l0_1.length c0_1) ∧ w'.cell? ⟨gb1205, 2, none⟩ = some (.slice A0_2 l0_2.length c0_2)) ∧ (Kd.R (Kd.int .i64) 2 w' w.heap.size (fun k_ => some k_ ≠ (s_.2.1 : Value).ownBlock) s_.1 t1210) ∧ (Kd.R (Kd.int .i64) 2 w' w.heap.size (fun k_ => some k_ ≠ (s_.1 : Value).ownBlock) s_.2.1 t1213) ∧ (w'.heap[gb1205]? = some (.cells #[.int .i64 a0_0, .slice A0_1 l0_1.length c0_1, .slice A0_2 l0_2.length c0_2] 26 (0, 0))) ∧ (w'.heap[gb1206]? = some (.cells #[.int .i64 0, .slice none 0 0, .slice none 0 0] 26 (0, 0))) ∧ (w'.heap[s_.2.2]? = some (.cells #[.int .i64 0, .slice none 0 0, .slice none 0 0] 26 (0, 0))) ∧ (w.heap.size ≤ s_.2.2) ∧ (w.heap.size ≤ s_.2.2) ∧ (gb1205 ≠ s_.2.2) ∧ (s_.2.2 ≠ gb1205) ∧ (gb1206 ≠ s_.2.2) ∧ (s_.2.2 ≠ gb1206) ∧ (Below w.heap.size w w')) ?_ ?_
 rotate_left
 ·intro hCont
  refine two_ (i := 2) (j := 4) (Ni := some 14) (Nj := some 5) (bl 6 7) (bl 6 19) rfl rfl rfl rfl (by kernel_rfl) (by decide) (by decide) (fun K hK => ?_) (fun K hK => ?_)
  ·skip
   refine gS Try.func59 #[.agg #[.int .i64 a0_0, .slice A0_1 l0_1.length c0_1, .slice A0_2 l0_2.length c0_2]] ?_
   with_reducible refine (impl_Jacobi_size.calls a0_0 _ _ l0_1 _ _ l0_2 t1208 _ ?side1 ?side2 ?side3 ?side4 A4.out).mono ?_
   (case side1 => exact uC ((Kd.C_below HR0_1.out HB.out)))
   (case side2 => exact HC0_1.out)
   (case side3 => exact uC ((Kd.C_below HR0_2.out HB.out)))
   (case side4 => exact HC0_2.out)
   rintro e w14 ⟨rfl, hb⟩
   refine ⟨_, rfl, ?_⟩
   replace BK1205 := xB BK1205 hb
   replace BK1206 := xB BK1206 hb
   replace HB := xH HB hb
   (try clear hb); (try clear hb2); (try clear hk); (try clear hi)
   refine hK.out _ _ ⟨bcu BK1205 0, bcu BK1205 1, bcu BK1205 2⟩ (fun hHeld => ?_)
   clear hK K
   refine no_ 14 ?_
   refine two_ (i := 3) (j := 4) (Ni := some 15) (Nj := some 5) (bl 6 15) (bl 6 23) rfl rfl rfl rfl (by kernel_rfl) (by decide) (by decide) (fun K hK => ?_) (fun K hK => ?_)
   ·skip
    refine gS Try.func58 #[.agg #[.int .i64 a0_0, .slice A0_1 l0_1.length c0_1, .slice A0_2 l0_2.length c0_2], .int .i64 0, .int .i64 t1208] ?_
    with_reducible refine (impl_Jacobi_part.calls a0_0 _ _ l0_1 _ _ l0_2 0 t1208 t1209 t1210 t1213 _ ?side1 ?side2 ?side3 ?side4 A5.out).mono ?_
    (case side1 => exact uC ((Kd.C_below HR0_1.out HB.out)))
    (case side2 => exact HC0_1.out)
    (case side3 => exact uC ((Kd.C_below HR0_2.out HB.out)))
    (case side4 => exact HC0_2.out)
    rintro e w15 ⟨v1211, v1214, rfl, ho0, ho1, hb⟩
    refine ⟨_, rfl, ?_⟩
    have HO1212 := zA (Kd.R_lower ho0 (below_size (uH HB.out)))
    have HO1215 := zA (Kd.R_lower ho1 (below_size (uH HB.out)))
    replace BK1205 := xB BK1205 hb
    replace BK1206 := xB BK1206 hb
    replace HB := xH HB hb
    (try clear hb); (try clear hb2); (try clear hk); (try clear hi); (try clear ho0); (try clear ho1)
    refine hK.out _ _ ⟨bcu BK1205 0, bcu BK1205 1, bcu BK1205 2⟩ (fun hHeld => ?_)
    clear hK K
    refine no_ 15 ?_
    refine one_ (i := 4) (N := some 5) (bl 6 31) rfl rfl (by kernel_rfl) (by decide) (fun K hK => ?_)
    refine box_step ?hg (N := 5) ?hd (cs := #[.int .i64 0, .slice none 0 0, .slice none 0 0]) (t := 26) ?hr ?_; (case hd => rfl); (case hg => rfl); (case hr => first | (go_simp; done) | (go_simp; rfl))
    intro gb1216 hg w16 hbox hb
    replace HO1212 := xR HO1212 hb
    replace HO1215 := xR HO1215 hb
    have BK1216 := zA (hbox)
    have GW1216 := gq HB hg
    have GE1216 := gq HB hg
    replace HB := xH HB hb
    have NB1205_1216 := zA ((by rw [hg]; exact neL BK1205 : gb1205 ≠ gb1216))
    have NB1216_1205 := zA ((by rw [hg]; exact neG BK1205 : gb1216 ≠ gb1205))
    replace BK1205 := xB BK1205 hb
    have NB1206_1216 := zA ((by rw [hg]; exact neL BK1206 : gb1206 ≠ gb1216))
    have NB1216_1206 := zA ((by rw [hg]; exact neG BK1206 : gb1216 ≠ gb1206))
    replace BK1206 := xB BK1206 hb
    have := geI GE1216
    clear hb hbox hg
    refine hK.out _ _ ⟨bcu BK1205 0, bcu BK1205 1, bcu BK1205 2⟩ (fun hHeld => ?_)
    clear hK K
    refine no_ 5 ?_
    exact norm_ (by simp only [putAll, Act.put, ls, lz, ln]) (hCont (v1211, v1214, gb1216) _ ⟨hHeld, (uR HO1212.out), (uR HO1215.out), (uB BK1205.out), (uB BK1206.out), (uB BK1216.out), GW1216.out, GE1216.out, NB1205_1216.out, NB1216_1205.out, NB1206_1216.out, NB1216_1206.out, (uH HB.out)⟩)
   ·skip
    refine box_step ?hg (N := 5) ?hd (cs := #[.int .i64 0, .slice none 0 0, .slice none 0 0]) (t := 26) ?hr ?_; (case hd => rfl); (case hg => rfl); (case hr => first | (go_simp; done) | (go_simp; rfl))
    intro gb1216 hg w15 hbox hb
    have BK1216 := zA (hbox)
    have GW1216 := gq HB hg
    have GE1216 := gq HB hg
    replace HB := xH HB hb
    have NB1205_1216 := zA ((by rw [hg]; exact neL BK1205 : gb1205 ≠ gb1216))
    have NB1216_1205 := zA ((by rw [hg]; exact neG BK1205 : gb1216 ≠ gb1205))
    replace BK1205 := xB BK1205 hb
    have NB1206_1216 := zA ((by rw [hg]; exact neL BK1206 : gb1206 ≠ gb1216))
    have NB1216_1206 := zA ((by rw [hg]; exact neG BK1206 : gb1216 ≠ gb1206))
    replace BK1206 := xB BK1206 hb
    have := geI GE1216
    clear hb hbox hg
    refine hK.out _ _ ⟨bcu BK1205 0, bcu BK1205 1, bcu BK1205 2⟩ (fun hHeld => ?_)
    clear hK K
    refine no_ 5 ?_
    refine one_ (i := 3) (N := some 15) (bl 6 31) rfl rfl (by kernel_rfl) (by decide) (fun K hK => ?_)
    refine gS Try.func58 #[.agg #[.int .i64 a0_0, .slice A0_1 l0_1.length c0_1, .slice A0_2 l0_2.length c0_2], .int .i64 0, .int .i64 t1208] ?_
    with_reducible refine (impl_Jacobi_part.calls a0_0 _ _ l0_1 _ _ l0_2 0 t1208 t1209 t1210 t1213 _ ?side1 ?side2 ?side3 ?side4 A5.out).mono ?_
    (case side1 => exact uC ((Kd.C_below HR0_1.out HB.out)))
    (case side2 => exact HC0_1.out)
    (case side3 => exact uC ((Kd.C_below HR0_2.out HB.out)))
    (case side4 => exact HC0_2.out)
    rintro e w16 ⟨v1211, v1214, rfl, ho0, ho1, hb⟩
    refine ⟨_, rfl, ?_⟩
    have HO1212 := zA (Kd.R_lower ho0 (below_size (uH HB.out)))
    have HO1215 := zA (Kd.R_lower ho1 (below_size (uH HB.out)))
    replace BK1205 := xB BK1205 hb
    replace BK1206 := xB BK1206 hb
    replace BK1216 := xB BK1216 hb
    replace HB := xH HB hb
    (try clear hb); (try clear hb2); (try clear hk); (try clear hi); (try clear ho0); (try clear ho1)
    refine hK.out _ _ ⟨bcu BK1205 0, bcu BK1205 1, bcu BK1205 2⟩ (fun hHeld => ?_)
    clear hK K
    refine no_ 15 ?_
    exact norm_ (by simp only [putAll, Act.put, ls, lz, ln]) (hCont (v1211, v1214, gb1216) _ ⟨hHeld, (uR HO1212.out), (uR HO1215.out), (uB BK1205.out), (uB BK1206.out), (uB BK1216.out), GW1216.out, GE1216.out, NB1205_1216.out, NB1216_1205.out, NB1206_1216.out, NB1216_1206.out, (uH HB.out)⟩)
  ·skip
   refine box_step ?hg (N := 5) ?hd (cs := #[.int .i64 0, .slice none 0 0, .slice none 0 0]) (t := 26) ?hr ?_; (case hd => rfl); (case hg => rfl); (case hr => first | (go_simp; done) | (go_simp; rfl))
   intro gb1216 hg w14 hbox hb
   have BK1216 := zA (hbox)
   have GW1216 := gq HB hg
   have GE1216 := gq HB hg
   replace HB := xH HB hb
   have NB1205_1216 := zA ((by rw [hg]; exact neL BK1205 : gb1205 ≠ gb1216))
   have NB1216_1205 := zA ((by rw [hg]; exact neG BK1205 : gb1216 ≠ gb1205))
   replace BK1205 := xB BK1205 hb
   have NB1206_1216 := zA ((by rw [hg]; exact neL BK1206 : gb1206 ≠ gb1216))
   have NB1216_1206 := zA ((by rw [hg]; exact neG BK1206 : gb1216 ≠ gb1206))
   replace BK1206 := xB BK1206 hb
   have := geI GE1216
   clear hb hbox hg
   refine hK.out _ _ ⟨bcu BK1205 0, bcu BK1205 1, bcu BK1205 2⟩ (fun hHeld => ?_)
   clear hK K
   refine no_ 5 ?_
   refine one_ (i := 2) (N := some 14) (bl 6 23) rfl rfl (by kernel_rfl) (by decide) (fun K hK => ?_)
   refine gS Try.func59 #[.agg #[.int .i64 a0_0, .slice A0_1 l0_1.length c0_1, .slice A0_2 l0_2.length c0_2]] ?_
   with_reducible refine (impl_Jacobi_size.calls a0_0 _ _ l0_1 _ _ l0_2 t1208 _ ?side1 ?side2 ?side3 ?side4 A4.out).mono ?_
   (case side1 => exact uC ((Kd.C_below HR0_1.out HB.out)))
   (case side2 => exact HC0_1.out)
   (case side3 => exact uC ((Kd.C_below HR0_2.out HB.out)))
   (case side4 => exact HC0_2.out)
   rintro e w15 ⟨rfl, hb⟩
   refine ⟨_, rfl, ?_⟩
   replace BK1205 := xB BK1205 hb
   replace BK1206 := xB BK1206 hb
   replace BK1216 := xB BK1216 hb
   replace HB := xH HB hb
   (try clear hb); (try clear hb2); (try clear hk); (try clear hi)
   refine hK.out _ _ ⟨bcu BK1205 0, bcu BK1205 1, bcu BK1205 2⟩ (fun hHeld => ?_)
   clear hK K
   refine no_ 14 ?_
   refine one_ (i := 3) (N := some 15) (bl 6 31) rfl rfl (by kernel_rfl) (by decide) (fun K hK => ?_)
   refine gS Try.func58 #[.agg #[.int .i64 a0_0, .slice A0_1 l0_1.length c0_1, .slice A0_2 l0_2.length c0_2], .int .i64 0, .int .i64 t1208] ?_
   with_reducible refine (impl_Jacobi_part.calls a0_0 _ _ l0_1 _ _ l0_2 0 t1208 t1209 t1210 t1213 _ ?side1 ?side2 ?side3 ?side4 A5.out).mono ?_
   (case side1 => exact uC ((Kd.C_below HR0_1.out HB.out)))
   (case side2 => exact HC0_1.out)
   (case side3 => exact uC ((Kd.C_below HR0_2.out HB.out)))
   (case side4 => exact HC0_2.out)
   rintro e w16 ⟨v1211, v1214, rfl, ho0, ho1, hb⟩
   refine ⟨_, rfl, ?_⟩
   have HO1212 := zA (Kd.R_lower ho0 (below_size (uH HB.out)))
   have HO1215 := zA (Kd.R_lower ho1 (below_size (uH HB.out)))
   replace BK1205 := xB BK1205 hb
   replace BK1206 := xB BK1206 hb
   replace BK1216 := xB BK1216 hb
   replace HB := xH HB hb
   (try clear hb); (try clear hb2); (try clear hk); (try clear hi); (try clear ho0); (try clear ho1)
   refine hK.out _ _ ⟨bcu BK1205 0, bcu BK1205 1, bcu BK1205 2⟩ (fun hHeld => ?_)
   clear hK K
   refine no_ 15 ?_
   exact norm_ (by simp only [putAll, Act.put, ls, lz, ln]) (hCont (v1211, v1214, gb1216) _ ⟨hHeld, (uR HO1212.out), (uR HO1215.out), (uB BK1205.out), (uB BK1206.out), (uB BK1216.out), GW1216.out, GE1216.out, NB1205_1216.out, NB1216_1205.out, NB1206_1216.out, NB1216_1206.out, (uH HB.out)⟩)
 rintro ⟨v1211, v1214, gb1216⟩ w17 ⟨hS_, h0_, h1_, h2_, h3_, h4_, h5_, h6_, h7_, h8_, h9_, h10_, h11_⟩
 have n0_ : Aside0 (Kd.R (Kd.int .i64) 2 w17 w.heap.size (fun k_ => some k_ ≠ (v1214 : Value).ownBlock) v1211 t1210) := ⟨h0_⟩
 have n1_ : Aside0 (Kd.R (Kd.int .i64) 2 w17 w.heap.size (fun k_ => some k_ ≠ (v1211 : Value).ownBlock) v1214 t1213) := ⟨h1_⟩
 have n2_ : Aside0 (w17.heap[gb1205]? = some (.cells #[.int .i64 a0_0, .slice A0_1 l0_1.length c0_1, .slice A0_2 l0_2.length c0_2] 26 (0, 0))) := ⟨h2_⟩
 have n3_ : Aside0 (w17.heap[gb1206]? = some (.cells #[.int .i64 0, .slice none 0 0, .slice none 0 0] 26 (0, 0))) := ⟨h3_⟩
 have n4_ : Aside0 (w17.heap[gb1216]? = some (.cells #[.int .i64 0, .slice none 0 0, .slice none 0 0] 26 (0, 0))) := ⟨h4_⟩
 have n5_ : Aside0 (w.heap.size ≤ gb1216) := ⟨h5_⟩
 have n6_ : Aside0 (w.heap.size ≤ gb1216) := ⟨h6_⟩
 have n7_ : Aside0 (gb1205 ≠ gb1216) := ⟨h7_⟩
 have n8_ : Aside0 (gb1216 ≠ gb1205) := ⟨h8_⟩
 have n9_ : Aside0 (gb1206 ≠ gb1216) := ⟨h9_⟩
 have n10_ : Aside0 (gb1216 ≠ gb1206) := ⟨h10_⟩
 have n11_ : Aside0 (Below w.heap.size w w17) := ⟨h11_⟩
 clear BK1205 BK1206 HB
 clear h0_ h1_ h2_ h3_ h4_ h5_ h6_ h7_ h8_ h9_ h10_ h11_
 have HO1212 := n0_
 have HO1215 := n1_
 have BK1205 := n2_
 have BK1206 := n3_
 have BK1216 := n4_
 have GW1216 := n5_
 have GE1216 := n6_
 have := geI GE1216
 have NB1205_1216 := n7_
 have NB1216_1205 := n8_
 have NB1206_1216 := n9_
 have NB1216_1206 := n10_
 have HB := n11_
 clear n0_ n1_ n2_ n3_ n4_ n5_ n6_ n7_ n8_ n9_ n10_ n11_
 have hHeld : w17.cell? ⟨gb1205, 0, none⟩ = some (.int .i64 a0_0) ∧ w17.cell? ⟨gb1205, 1, none⟩ = some (.slice A0_1 l0_1.length c0_1) ∧ w17.cell? ⟨gb1205, 2, none⟩ = some (.slice A0_2 l0_2.length c0_2) := hS_
 obtain ⟨Ao19, co19, eo19⟩ := Kd.R_slice HO1212.out
 (first | subst eo19 | (injection eo19 with f1_ f2_ f3_; have f4_ := f1_.symm; have f5_ := f3_.symm; clear f1_ f2_ f3_; subst f4_; subst f5_))
 obtain ⟨Ao21, co21, eo21⟩ := Kd.R_slice HO1215.out
 (first | subst eo21 | (injection eo21 with f1_ f2_ f3_; have f4_ := f1_.symm; have f5_ := f3_.symm; clear f1_ f2_ f3_; subst f4_; subst f5_))
 refine norm_ (a' := ?_) ?_ ?_
 rotate_left
 ·simp only [putAll, Act.put, ls, lz, ln]
  rfl
 refine one_ (i := 5) (N := none) (bl 6 63) rfl rfl (by kernel_rfl) (by decide) (fun K hK => ?_)
 have hs18 : w17.cell? ⟨gb1216, 0, none⟩ = some (.int .i64 0) := (blk_cell BK1216.out 0).trans rfl
 have hfs18 := bf BK1216 0
 have hns18_0 := NB1205_1216.out; have hns18_1 := NB1206_1216.out; have hms18_0 := NB1216_1205.out; have hms18_1 := NB1216_1206.out
 have hs20 : w17.cell? ⟨gb1216, 1, none⟩ = some (.slice none 0 0) := (blk_cell BK1216.out 1).trans rfl
 have hfs20 := bf BK1216 1
 have hns20_0 := NB1205_1216.out; have hns20_1 := NB1206_1216.out; have hms20_0 := NB1216_1205.out; have hms20_1 := NB1216_1206.out
 have hs22 : w17.cell? ⟨gb1216, 2, none⟩ = some (.slice none 0 0) := (blk_cell BK1216.out 2).trans rfl
 have hfs22 := bf BK1216 2
 have hns22_0 := NB1205_1216.out; have hns22_1 := NB1206_1216.out; have hms22_0 := NB1216_1205.out; have hms22_1 := NB1216_1206.out
 refine skip_ (w1 := ?_) (by rfl) rfl ?_ ?_
 rotate_left
 ·go_simp
  rfl
 refine hK.out _ _ ⟨((cell_far (p := ⟨gb1216, _, none⟩) NB1205_1216.out _).trans (((cell_far (p := ⟨gb1216, _, none⟩) NB1205_1216.out _).trans (((cell_far (p := ⟨gb1216, _, none⟩) NB1205_1216.out _).trans (hHeld.1)))))), ((cell_far (p := ⟨gb1216, _, none⟩) NB1205_1216.out _).trans (((cell_far (p := ⟨gb1216, _, none⟩) NB1205_1216.out _).trans (((cell_far (p := ⟨gb1216, _, none⟩) NB1205_1216.out _).trans (hHeld.2.1)))))), ((cell_far (p := ⟨gb1216, _, none⟩) NB1205_1216.out _).trans (((cell_far (p := ⟨gb1216, _, none⟩) NB1205_1216.out _).trans (((cell_far (p := ⟨gb1216, _, none⟩) NB1205_1216.out _).trans (hHeld.2.2))))))⟩ (fun hHeld => ?_)
 clear hK K
 refine done_ (by kernel_rfl) ?_
 have n0_ : Aside0 (Kd.R (Kd.int .i64) 2 (((w17.setCell ⟨gb1216, 0, none⟩ (.int .i64 t1209)).setCell ⟨gb1216, 1, none⟩ (.slice Ao19 t1210.length co19)).setCell ⟨gb1216, 2, none⟩ (.slice Ao21 t1213.length co21)) w.heap.size (fun k_ => ax k_ (.slice Ao21 t1213.length co21)) (.slice Ao19 t1210.length co19) t1210) := ⟨uR (rf3 HO1212 BK1216 (by decide) (.int .i64 t1209) (.slice Ao19 t1210.length co19) (.slice Ao21 t1213.length co21))⟩
 have n1_ : Aside0 (Kd.R (Kd.int .i64) 2 (((w17.setCell ⟨gb1216, 0, none⟩ (.int .i64 t1209)).setCell ⟨gb1216, 1, none⟩ (.slice Ao19 t1210.length co19)).setCell ⟨gb1216, 2, none⟩ (.slice Ao21 t1213.length co21)) w.heap.size (fun k_ => ax k_ (.slice Ao19 t1210.length co19)) (.slice Ao21 t1213.length co21) t1213) := ⟨uR (rf3 HO1215 BK1216 (by decide) (.int .i64 t1209) (.slice Ao19 t1210.length co19) (.slice Ao21 t1213.length co21))⟩
 have n2_ : Aside0 ((((w17.setCell ⟨gb1216, 0, none⟩ (.int .i64 t1209)).setCell ⟨gb1216, 1, none⟩ (.slice Ao19 t1210.length co19)).setCell ⟨gb1216, 2, none⟩ (.slice Ao21 t1213.length co21)).heap[gb1205]? = some (.cells #[.int .i64 a0_0, .slice A0_1 l0_1.length c0_1, .slice A0_2 l0_2.length c0_2] 26 (0, 0))) := ⟨by (repeat refine up1 ?_); refine blk_far ?_ NB1205_1216.out _; (repeat refine up1 ?_); refine blk_far ?_ NB1205_1216.out _; (repeat refine up1 ?_); refine blk_far ?_ NB1205_1216.out _; (repeat refine up1 ?_); exact BK1205.out⟩
 have n3_ : Aside0 ((((w17.setCell ⟨gb1216, 0, none⟩ (.int .i64 t1209)).setCell ⟨gb1216, 1, none⟩ (.slice Ao19 t1210.length co19)).setCell ⟨gb1216, 2, none⟩ (.slice Ao21 t1213.length co21)).heap[gb1206]? = some (.cells #[.int .i64 0, .slice none 0 0, .slice none 0 0] 26 (0, 0))) := ⟨by (repeat refine up1 ?_); refine blk_far ?_ NB1206_1216.out _; (repeat refine up1 ?_); refine blk_far ?_ NB1206_1216.out _; (repeat refine up1 ?_); refine blk_far ?_ NB1206_1216.out _; (repeat refine up1 ?_); exact BK1206.out⟩
 have n4_ : Aside0 ((((w17.setCell ⟨gb1216, 0, none⟩ (.int .i64 t1209)).setCell ⟨gb1216, 1, none⟩ (.slice Ao19 t1210.length co19)).setCell ⟨gb1216, 2, none⟩ (.slice Ao21 t1213.length co21)).heap[gb1216]? = some (.cells #[.int .i64 t1209, .slice Ao19 t1210.length co19, .slice Ao21 t1213.length co21] 26 (0, 0))) := ⟨by (repeat refine up1 ?_); refine blk_put (cs := #[.int .i64 t1209, .slice Ao19 t1210.length co19, .slice none 0 0]) ?_ 2 _ rfl; (repeat refine up1 ?_); refine blk_put (cs := #[.int .i64 t1209, .slice none 0 0, .slice none 0 0]) ?_ 1 _ rfl; (repeat refine up1 ?_); refine blk_put (cs := #[.int .i64 0, .slice none 0 0, .slice none 0 0]) ?_ 0 _ rfl; (repeat refine up1 ?_); exact BK1216.out⟩
 have n5_ : Aside0 (Below w.heap.size w (((w17.setCell ⟨gb1216, 0, none⟩ (.int .i64 t1209)).setCell ⟨gb1216, 1, none⟩ (.slice Ao19 t1210.length co19)).setCell ⟨gb1216, 2, none⟩ (.slice Ao21 t1213.length co21))) := ⟨uH HB.out⟩
 (try clear HO1212); (try clear HO1215); (try clear BK1205); (try clear BK1206); (try clear BK1216); (try clear HB)
 generalize (((w17.setCell ⟨gb1216, 0, none⟩ (.int .i64 t1209)).setCell ⟨gb1216, 1, none⟩ (.slice Ao19 t1210.length co19)).setCell ⟨gb1216, 2, none⟩ (.slice Ao21 t1213.length co21)) = w23 at n0_ n1_ n2_ n3_ n4_ n5_ ⊢
 have HO1212 := n0_
 have HO1215 := n1_
 have BK1205 := n2_
 have BK1206 := n3_
 have BK1216 := n4_
 have HB := n5_
 clear n0_ n1_ n2_ n3_ n4_ n5_
 have hnb24 := NB1216_1205.out; have hnc24 := NB1205_1216.out; have hnb25 := NB1216_1206.out; have hnc25 := NB1206_1216.out
 have hcz26_0 := bc BK1216 0
 have hcz26_1 := bc BK1216 1
 have hcz26_2 := bc BK1216 2
 have hfz26_0 := bf BK1216 0
 have hfz26_1 := bf BK1216 1
 have hfz26_2 := bf BK1216 2
 obtain ⟨gz, ZA, hAz, hZA, hcutZ⟩ := reverse_cut (P := Try.prog) Try.underlying22 (by kernel_rfl) (d := 0) HO1215.out (slices_ReverseTail.pos A7.out)
 have HAZ := zA hAz
 have HZA := zA hZA
 clear hAz hZA
 try go_wp2_with (first | ((with_reducible refine gate_callee (f := 60) rfl ?_); refine gL (some 18) Try.func60 #[.slice Ao19 t1210.length co19] ?_; (with_reducible refine (slices_Reverse_ints.calls (fun k_ => some k_ = (.slice Ao19 t1210.length co19 : Value).ownBlock) (.slice Ao19 t1210.length co19) t1210 t1217 w _ ?side1 ?side2 A6.out).mono ?_); (case side1 => repeat (first | (with_reducible first | exact HB.out | apply below_alloc | apply pw_below_drewN | apply below_drew1 | refine below_set ?_ GE1205.out | refine below_set ?_ GE1206.out | refine below_set ?_ GE1216.out) | exact HB.out)); (case side2 => exact Kd.R_tight rfl HO1212.out); rintro e w27 ⟨rfl, hy0, hb, hkp⟩; refine ⟨_, rfl, ?_⟩; replace BK1205 := zA (blk_kept (uB BK1205.out) hkp (fun hs_ => (fun e_ => (Kd.R_ne HO1212.out BK1205.out (by decide)) e_) hs_)); replace BK1206 := zA (blk_kept (uB BK1206.out) hkp (fun hs_ => (fun e_ => (Kd.R_ne HO1212.out BK1206.out (by decide)) e_) hs_)); replace HO1215 := zA (Kd.R_mono (ok' := fun k_ => ax k_ (.slice Ao19 t1210.length co19)) (Kd.R_keptB (HO1215.out) hkp (fun k_ hk_ hs_ => (hk_) hs_)) (fun k_ hk_ => hk_.1)); replace BK1216 := zA (blk_kept (uB BK1216.out) hkp (fun hs_ => (fun e_ => (Kd.R_ne HO1212.out BK1216.out (by decide)) e_) hs_)); replace HO1212 := zA (Kd.R_reok rfl hy0 (fun k_ e_ => HO1212.out.1 k_ e_)); replace HB := zA (hb); (try clear hb); (try clear hkp); (try clear hy0); have hcz28_0 := bc BK1216 0; have hcz28_1 := bc BK1216 1; have hcz28_2 := bc BK1216 2; have hfz28_0 := bf BK1216 0; have hfz28_1 := bf BK1216 1; have hfz28_2 := bf BK1216 2) | ((with_reducible refine gate_callee (f := 60) rfl ?_); refine gL (some 22) Try.func60 #[.slice (some ZA) (t1213.length - 1) (co21 - 1)] ?_; (with_reducible refine (slices_ReverseTail.calls (fun k_ => some k_ = (.slice Ao21 t1213.length co21 : Value).ownBlock) gz t1213.length co21 ZA Ao21 t1213 t1218 w _ ?side1 ?side2 rfl HZA.out HAZ.out A7.out).mono ?_); (case side1 => repeat (first | (with_reducible first | exact HB.out | apply below_alloc | apply pw_below_drewN | apply below_drew1 | refine below_set ?_ GE1205.out | refine below_set ?_ GE1206.out | refine below_set ?_ GE1216.out) | exact HB.out)); (case side2 => exact Kd.R_tight rfl HO1215.out); rintro e w29 ⟨rfl, hy0, hb, hkp⟩; refine ⟨_, rfl, ?_⟩; replace BK1205 := zA (blk_kept (uB BK1205.out) hkp (fun hs_ => (fun e_ => (Kd.R_ne HO1215.out BK1205.out (by decide)) e_) hs_)); replace BK1206 := zA (blk_kept (uB BK1206.out) hkp (fun hs_ => (fun e_ => (Kd.R_ne HO1215.out BK1206.out (by decide)) e_) hs_)); replace HO1212 := zA (Kd.R_mono (ok' := fun k_ => ax k_ (.slice Ao21 t1213.length co21)) (Kd.R_keptB (HO1212.out) hkp (fun k_ hk_ hs_ => (hk_) hs_)) (fun k_ hk_ => hk_.1)); replace BK1216 := zA (blk_kept (uB BK1216.out) hkp (fun hs_ => (fun e_ => (Kd.R_ne HO1215.out BK1216.out (by decide)) e_) hs_)); replace HO1215 := zA (Kd.R_reok rfl hy0 (fun k_ e_ => HO1215.out.1 k_ e_)); replace HB := zA (hb); (try clear hb); (try clear hkp); (try clear hy0); have hcz30_0 := bc BK1216 0; have hcz30_1 := bc BK1216 1; have hcz30_2 := bc BK1216 2; have hfz30_0 := bf BK1216 0; have hfz30_1 := bf BK1216 1; have hfz30_2 := bf BK1216 2; have hcz31_0 := bc BK1206 0; have hcz31_1 := bc BK1206 1; have hcz31_2 := bc BK1206 2; have hfz31_0 := bf BK1206 0; have hfz31_1 := bf BK1206 1; have hfz31_2 := bf BK1206 2))
 refine bodyPost_ret (results_ct rfl _ _ gb1206 26 #[.int .i64 t1209, .slice Ao19 t1210.length co19, .slice Ao21 t1213.length co21] (0, 0) _ rfl (by (repeat refine up1 ?_); refine blk_put (cs := #[.int .i64 t1209, .slice Ao19 t1210.length co19, .slice none 0 0]) ?_ 2 _ rfl; (repeat refine up1 ?_); refine blk_put (cs := #[.int .i64 t1209, .slice none 0 0, .slice none 0 0]) ?_ 1 _ rfl; (repeat refine up1 ?_); refine blk_put (cs := #[.int .i64 0, .slice none 0 0, .slice none 0 0]) ?_ 0 _ rfl; (repeat refine up1 ?_); exact BK1206.out) Try.underlying26 rfl (by kernel_rfl)) rfl ?_
 exact ⟨_, _, by first | rfl | (simp [errW_none, errW_some] <;> rfl) | (simp [*, errW_none, errW_some] <;> rfl), uR (rf3 HO1212 BK1206 (by decide) (.int .i64 t1209) (.slice Ao19 t1210.length co19) (.slice Ao21 t1213.length co21)), uR (rf3 HO1215 BK1206 (by decide) (.int .i64 t1209) (.slice Ao19 t1210.length co19) (.slice Ao21 t1213.length co21)), uH HB.out⟩
end Go.Proofs.Ytfbnkebgdmfcfaa.Pr
