/- Texts of this session in one: what functions of the program compute, and plain facts of it, under the conditions that each theorem names. -/
import Derived.Test.YtfbnkebgdmfcfaaKFimplMomentsupTo
import Derived.Test.YtfbnkebgdmfcfaaKC01
import Derived.Test.YtfbnkebgdmfcfaaKC02
import Derived.Test.YtfbnkebgdmfcfaaKC03
import Derived.Test.YtfbnkebgdmfcfaaKC05
import Derived.Test.YtfbnkebgdmfcfaaKC06
namespace Go.Proofs.Ytfbnkebgdmfcfaa.Pr
open Go.RowKit Go.Proofs.YtfbnkebgdmfcfaaW.PrintWords Go.Proofs.YtfbnkebgdmfcfaaW.PrintLast Go.Proofs.YtfbnkebgdmfcfaaW.PrintMore
attribute [local go_sem] max2_int min2_int max_two min_two max_three min_three max_four min_four   -- for this text's walks alone
set_option linter.unusedVariables false
set_option linter.unusedSimpArgs false
/-! ### impl_JacobiOfMoments_1: function 111 -/
def impl_JacobiOfMoments_1.f (a0_0 : Int) : Option (Bool) := (impl_isOrder.f a0_0 1).bind fun t921 => (some t921)
set_option maxHeartbeats 8000000 in
set_option maxRecDepth 100000 in
theorem impl_JacobiOfMoments_1.calls (gc0 : Nat) (a0_0 : Int) (r : Bool) (w : World) (hb0 : w.heap[gc0]? = some (.cells #[.int .i64 a0_0] 2 (0, 0))) (h : impl_JacobiOfMoments_1.f a0_0 = some r) :
  Calls Try.prog 111 #[.pointer (some ⟨gc0, 0, none⟩)] w fun e w' => e = .returned (.bool r) ∧ Drawn0 w w' := by
 have BK0 := zA hb0
 clear hb0
 have H : ((impl_isOrder.f a0_0 1).bind fun t921 => (some t921)) = some r := h
 clear h
 replace H := Option.bind_eq_some_iff.mp H
 obtain ⟨t921, A20, H⟩ := H
 replace H : (some t921) = some r := H
 have A2 := zA A20
 clear A20
 obtain rfl := Option.some.inj H
 have hcz3_0 := bc BK0 0
 have hfz3_0 := bf BK0 0
 go_enter Try.func111, Try.ntmps111
 go_wp2_with (first | ((with_reducible refine gate_callee (f := 87) rfl ?_); refine gL (some 3) Try.func87 #[.int .i64 a0_0, .int .i64 1] ?_; (with_reducible refine (impl_isOrder.calls a0_0 1 t921 _ A2.out).mono ?_); rintro e w' ⟨rfl, ⟨nd, rfl⟩⟩; refine ⟨_, rfl, ?_⟩))
 go_ret
 exact ⟨by first | rfl | (simp; done) | (simp [*]; done), by repeat (first | exact Drawn0.refl _ | apply Drawn0.step)⟩
/-! ### impl_JacobiOfMoments: function 50 -/
def impl_JacobiOfMoments.f (k : Nat) (a0_0 : Int) (l0_1 : List Int) (a1 : Int) : Option (Int × List Int × List Int × Int) := (impl_JacobiOfMoments_1.f a1).bind fun t925 => ((impl_momentsCode.f k a0_0 l0_1 t925 ([] : List (List Int))).bind fun t926 => (if t926 = 0 then ((impl_Moments_upTo.f k a0_0 l0_1 a1).bind fun bt927 => (if bt927.2.2.2.2.2 = true then (some (bt927.2.2.1, bt927.2.2.2.1, bt927.2.2.2.2.1, 0)) else (some (0, ([] : List Int), ([] : List Int), 5)))) else (some (0, ([] : List Int), ([] : List Int), t926))))
set_option maxHeartbeats 8000000 in
set_option maxRecDepth 100000 in
theorem impl_JacobiOfMoments.calls (k : Nat) (a0_0 : Int) (A0_1 : Option Addr) (c0_1 : Nat) (l0_1 : List Int) (a1 : Int) (r1 : Int) (r2 : List Int) (r3 : List Int) (r4 : Int) (w : World) (hr0_1 : Kd.C (Kd.int .i64) w A0_1 l0_1.length l0_1) (hc0_1 : l0_1.length ≤ c0_1) (h : impl_JacobiOfMoments.f k a0_0 l0_1 a1 = some (r1, r2, r3, r4)) :
  Calls Try.prog 50 #[.agg #[.int .i64 a0_0, .slice A0_1 l0_1.length c0_1], .int .i64 a1] w fun e w' => ∃ v1_ v2_ : Value, e = .returned (.tuple #[.agg #[.int .i64 r1, v1_, v2_], .int .i64 r4]) ∧ Kd.R (Kd.int .i64) 2 w' w.heap.size (fun k_ => some k_ ≠ (v2_ : Value).ownBlock) v1_ r2 ∧ Kd.R (Kd.int .i64) 2 w' w.heap.size (fun k_ => some k_ ≠ (v1_ : Value).ownBlock) v2_ r3 ∧ Below w.heap.size w w' := by
 have hu40 := Try.underlying40
 have hu26 := Try.underlying26
 have hu95 := Try.underlying95
 have hmf : ∀ (fn_ : Fn) (first_ cap_ : Array Value) (w_ : World), (Instr.makeFunc fn_ first_ cap_).run Try.prog w_ = .ok (.func fn_ first_ cap_) w_ := fun _ _ _ _ => rfl
 have HR0_1 := zA hr0_1
 have HC0_1 := zA hc0_1
 clear hr0_1 hc0_1
 have HB := zA (Below.refl w.heap.size w)
 have H : ((impl_JacobiOfMoments_1.f a1).bind fun t925 => ((impl_momentsCode.f k a0_0 l0_1 t925 ([] : List (List Int))).bind fun t926 => (if t926 = 0 then ((impl_Moments_upTo.f k a0_0 l0_1 a1).bind fun bt927 => (if bt927.2.2.2.2.2 = true then (some (bt927.2.2.1, bt927.2.2.2.1, bt927.2.2.2.2.1, 0)) else (some (0, ([] : List Int), ([] : List Int), 5)))) else (some (0, ([] : List Int), ([] : List Int), t926))))) = some (r1, r2, r3, r4) := h
 clear h
 replace H := Option.bind_eq_some_iff.mp H
 obtain ⟨t925, A30, H⟩ := H
 replace H : ((impl_momentsCode.f k a0_0 l0_1 t925 ([] : List (List Int))).bind fun t926 => (if t926 = 0 then ((impl_Moments_upTo.f k a0_0 l0_1 a1).bind fun bt927 => (if bt927.2.2.2.2.2 = true then (some (bt927.2.2.1, bt927.2.2.2.1, bt927.2.2.2.2.1, 0)) else (some (0, ([] : List Int), ([] : List Int), 5)))) else (some (0, ([] : List Int), ([] : List Int), t926)))) = some (r1, r2, r3, r4) := H
 have A3 := zA A30
 clear A30
 replace H := Option.bind_eq_some_iff.mp H
 obtain ⟨t926, A40, H⟩ := H
 replace H : (if t926 = 0 then ((impl_Moments_upTo.f k a0_0 l0_1 a1).bind fun bt927 => (if bt927.2.2.2.2.2 = true then (some (bt927.2.2.1, bt927.2.2.2.1, bt927.2.2.2.2.1, 0)) else (some (0, ([] : List Int), ([] : List Int), 5)))) else (some (0, ([] : List Int), ([] : List Int), t926))) = some (r1, r2, r3, r4) := H
 have A4 := zA A40
 clear A40
 by_cases c5 : t926 = 0
 rotate_left
 ·rw [if_neg c5] at H
  have c5b0 : (t926 == 0) = false := beq_eq_false_iff_ne.mpr c5
  have c5b1 : (t926 != 0) = true := bne_iff_ne.mpr c5
  simp only [Option.some.injEq, Prod.mk.injEq] at H
  obtain ⟨rfl, rfl, rfl, rfl⟩ := H
  go_enter Try.func50, Try.ntmps50
  go_wp2_with (first | ((with_reducible refine gate_dst (N := 2) rfl ?_); refine bx 2 #[.int .i64 a0_0, .slice A0_1 l0_1.length c0_1] 40 ?_; intro gb922 hg w50 hbox hb; have BK922 := zA (hbox); have GW922 := gq HB hg; have GE922 := gq HB hg; replace HB := xH HB hb; have := geI GE922; clear hb hbox hg) | ((with_reducible refine gate_dst (N := 3) rfl ?_); refine bx 3 #[.int .i64 a1] 2 ?_; intro gb923 hg w51 hbox hb; have BK923 := zA (hbox); have GW923 := gq HB hg; have GE923 := gq HB hg; replace HB := xH HB hb; have NB922_923 := zA ((by rw [hg]; exact neL BK922 : gb922 ≠ gb923)); have NB923_922 := zA ((by rw [hg]; exact neG BK922 : gb923 ≠ gb922)); replace BK922 := xB BK922 hb; have := geI GE923; clear hb hbox hg) | ((with_reducible refine gate_dst (N := 4) rfl ?_); refine bx 4 #[.int .i64 0, .slice none 0 0, .slice none 0 0] 26 ?_; intro gb924 hg w52 hbox hb; have BK924 := zA (hbox); have GW924 := gq HB hg; have GE924 := gq HB hg; replace HB := xH HB hb; have NB922_924 := zA ((by rw [hg]; exact neL BK922 : gb922 ≠ gb924)); have NB924_922 := zA ((by rw [hg]; exact neG BK922 : gb924 ≠ gb922)); replace BK922 := xB BK922 hb; have NB923_924 := zA ((by rw [hg]; exact neL BK923 : gb923 ≠ gb924)); have NB924_923 := zA ((by rw [hg]; exact neG BK923 : gb924 ≠ gb923)); replace BK923 := xB BK923 hb; have := geI GE924; clear hb hbox hg; have hnb53 := NB922_923.out; have hnc53 := NB923_922.out; have hnb54 := NB922_924.out; have hnc54 := NB924_922.out; have hcz55_0 := bc BK922 0; have hcz55_1 := bc BK922 1; have hfz55_0 := bf BK922 0; have hfz55_1 := bf BK922 1) | ((with_reducible refine gate_callee (f := 68) rfl ?_); refine gL (some 11) Try.func68 #[.agg #[.int .i64 a0_0, .slice A0_1 l0_1.length c0_1], (.func (.func 111) #[] #[.pointer (some ⟨gb923, 0, none⟩)]), .slice none 0 0] ?_; (refine (impl_momentsCode.calls k a0_0 _ _ l0_1 _ t925 _ _ ([] : List (List Int)) t926 _ ?side1 ?side2 ?side3 ?side4 ?side5 A4.out).mono ?_); (case side1 => exact uC ((Kd.C_below HR0_1.out HB.out))); (case side2 => exact HC0_1.out); (case side3 => exact FnB.of Try.func111 (by kernel_rfl) rfl (fun W_ hW_ => calls_of_args (args' := #[.pointer (some ⟨gb923, 0, none⟩)]) (by simp) ((impl_JacobiOfMoments_1.calls _ a1 _ W_ (blk_below (g := gb923) (o := .cells #[.int .i64 a1] 2 (0, 0)) (uB BK923.out) hW_) A3.out).mono fun e_ W2_ h_ => ⟨h_.1, h_.2.below⟩))); (case side4 => exact Kd.C_nil _ _); (case side5 => exact Nat.le_refl _); rintro e w56 ⟨rfl, hb⟩; refine ⟨_, rfl, ?_⟩; replace BK922 := xB BK922 hb; replace BK923 := xB BK923 hb; replace BK924 := xB BK924 hb; replace HB := xH HB hb; (try clear hb); (try clear hb2); (try clear hk); (try clear hi); have hnb57 := NB924_923.out; have hnc57 := NB923_924.out; have hcz58_0 := bc BK924 0; have hcz58_1 := bc BK924 1; have hcz58_2 := bc BK924 2; have hfz58_0 := bf BK924 0; have hfz58_1 := bf BK924 1; have hfz58_2 := bf BK924 2))
  refine bodyPost_ret (results_ct rfl _ _ gb924 26 #[.int .i64 0, .slice none 0 0, .slice none 0 0] (0, 0) _ rfl (by (repeat refine up1 ?_); refine blk_put (cs := #[.int .i64 0, .slice none 0 0, .slice none 0 0]) ?_ 2 _ rfl; (repeat refine up1 ?_); refine blk_put (cs := #[.int .i64 0, .slice none 0 0, .slice none 0 0]) ?_ 1 _ rfl; (repeat refine up1 ?_); refine blk_put (cs := #[.int .i64 0, .slice none 0 0, .slice none 0 0]) ?_ 0 _ rfl; (repeat refine up1 ?_); exact BK924.out) Try.underlying26 rfl (by kernel_rfl)) rfl ?_
  exact ⟨_, _, by first | rfl | (simp [errW_none, errW_some] <;> rfl) | (simp [*, errW_none, errW_some] <;> rfl), by first | exact Kd.R_nil _ _ _ _ _ | exact Kd.N_nil _ _ _ _ _ | exact Kd.V_nil _ _ _ _ _ | exact Kd.Q_nil _ _ _ _ _ | exact Kd.S_nil _ _ _ _ _, by first | exact Kd.R_nil _ _ _ _ _ | exact Kd.N_nil _ _ _ _ _ | exact Kd.V_nil _ _ _ _ _ | exact Kd.Q_nil _ _ _ _ _ | exact Kd.S_nil _ _ _ _ _, uH HB.out⟩

 rw [if_pos c5] at H
 have c5b0 : (t926 == 0) = true := beq_iff_eq.mpr c5
 have c5b1 : (t926 != 0) = false := bne_eq_false_iff_eq.mpr c5
 clear c5
 replace H := Option.bind_eq_some_iff.mp H
 obtain ⟨⟨t927, t930, t933, t934, t937, t940⟩, A60, H⟩ := H
 replace H : (if t940 = true then (some (t933, t934, t937, 0)) else (some (0, ([] : List Int), ([] : List Int), 5))) = some (r1, r2, r3, r4) := H
 have A6 := zA A60
 clear A60
 by_cases c7 : t940 = true
 ·subst c7
  have H1 : (some (t933, t934, t937, 0)) = some (r1, r2, r3, r4) := by rw [if_pos rfl] at H; exact H
  clear H
  have H := H1
  clear H1
  simp only [Option.some.injEq, Prod.mk.injEq] at H
  obtain ⟨rfl, rfl, rfl, rfl⟩ := H
  go_enter Try.func50, Try.ntmps50
  go_wp2_with (first | ((with_reducible refine gate_dst (N := 2) rfl ?_); refine bx 2 #[.int .i64 a0_0, .slice A0_1 l0_1.length c0_1] 40 ?_; intro gb922 hg w8 hbox hb; have BK922 := zA (hbox); have GW922 := gq HB hg; have GE922 := gq HB hg; replace HB := xH HB hb; have := geI GE922; clear hb hbox hg) | ((with_reducible refine gate_dst (N := 3) rfl ?_); refine bx 3 #[.int .i64 a1] 2 ?_; intro gb923 hg w9 hbox hb; have BK923 := zA (hbox); have GW923 := gq HB hg; have GE923 := gq HB hg; replace HB := xH HB hb; have NB922_923 := zA ((by rw [hg]; exact neL BK922 : gb922 ≠ gb923)); have NB923_922 := zA ((by rw [hg]; exact neG BK922 : gb923 ≠ gb922)); replace BK922 := xB BK922 hb; have := geI GE923; clear hb hbox hg) | ((with_reducible refine gate_dst (N := 4) rfl ?_); refine bx 4 #[.int .i64 0, .slice none 0 0, .slice none 0 0] 26 ?_; intro gb924 hg w10 hbox hb; have BK924 := zA (hbox); have GW924 := gq HB hg; have GE924 := gq HB hg; replace HB := xH HB hb; have NB922_924 := zA ((by rw [hg]; exact neL BK922 : gb922 ≠ gb924)); have NB924_922 := zA ((by rw [hg]; exact neG BK922 : gb924 ≠ gb922)); replace BK922 := xB BK922 hb; have NB923_924 := zA ((by rw [hg]; exact neL BK923 : gb923 ≠ gb924)); have NB924_923 := zA ((by rw [hg]; exact neG BK923 : gb924 ≠ gb923)); replace BK923 := xB BK923 hb; have := geI GE924; clear hb hbox hg; have hnb11 := NB922_923.out; have hnc11 := NB923_922.out; have hnb12 := NB922_924.out; have hnc12 := NB924_922.out; have hcz13_0 := bc BK922 0; have hcz13_1 := bc BK922 1; have hfz13_0 := bf BK922 0; have hfz13_1 := bf BK922 1) | ((with_reducible refine gate_callee (f := 68) rfl ?_); refine gL (some 11) Try.func68 #[.agg #[.int .i64 a0_0, .slice A0_1 l0_1.length c0_1], (.func (.func 111) #[] #[.pointer (some ⟨gb923, 0, none⟩)]), .slice none 0 0] ?_; (refine (impl_momentsCode.calls k a0_0 _ _ l0_1 _ t925 _ _ ([] : List (List Int)) t926 _ ?side1 ?side2 ?side3 ?side4 ?side5 A4.out).mono ?_); (case side1 => exact uC ((Kd.C_below HR0_1.out HB.out))); (case side2 => exact HC0_1.out); (case side3 => exact FnB.of Try.func111 (by kernel_rfl) rfl (fun W_ hW_ => calls_of_args (args' := #[.pointer (some ⟨gb923, 0, none⟩)]) (by simp) ((impl_JacobiOfMoments_1.calls _ a1 _ W_ (blk_below (g := gb923) (o := .cells #[.int .i64 a1] 2 (0, 0)) (uB BK923.out) hW_) A3.out).mono fun e_ W2_ h_ => ⟨h_.1, h_.2.below⟩))); (case side4 => exact Kd.C_nil _ _); (case side5 => exact Nat.le_refl _); rintro e w14 ⟨rfl, hb⟩; refine ⟨_, rfl, ?_⟩; replace BK922 := xB BK922 hb; replace BK923 := xB BK923 hb; replace BK924 := xB BK924 hb; replace HB := xH HB hb; (try clear hb); (try clear hb2); (try clear hk); (try clear hi); have hcz15_0 := bc BK922 0; have hcz15_1 := bc BK922 1; have hfz15_0 := bf BK922 0; have hfz15_1 := bf BK922 1; have hnb16 := NB923_924.out; have hnc16 := NB924_923.out; have hcz17_0 := bc BK923 0; have hfz17_0 := bf BK923 0) | ((with_reducible refine gate_callee (f := 88) rfl ?_); refine gL (some 19) Try.func88 #[.agg #[.int .i64 a0_0, .slice A0_1 l0_1.length c0_1], .int .i64 a1] ?_; (with_reducible refine (impl_Moments_upTo.calls k a0_0 _ _ l0_1 a1 t927 t930 t933 t934 t937 true _ ?side1 ?side2 A6.out).mono ?_); (case side1 => exact uC ((Kd.C_below HR0_1.out HB.out))); (case side2 => exact HC0_1.out); rintro e w18 ⟨v928, v931, v935, v938, rfl, ho0, ho1, ho2, ho3, hb⟩; refine ⟨_, rfl, ?_⟩; have HO929 := zA (Kd.N_lower (Kd.N_mono (ok' := fun k_ => some k_ ≠ (v931 : Value).ownBlock ∧ some k_ ≠ (v935 : Value).ownBlock ∧ some k_ ≠ (v938 : Value).ownBlock ∧ k_ ≠ gb922 ∧ k_ ≠ gb923 ∧ k_ ≠ gb924) ho0 (fun k_ hk_ => ⟨hk_.2.1, hk_.2.2.1, hk_.2.2.2, (Kd.freshB (g := gb922) (o := .cells #[.int .i64 a0_0, .slice A0_1 l0_1.length c0_1] 40 (0, 0)) (uB BK922.out) k_ hk_.1), (Kd.freshB (g := gb923) (o := .cells #[.int .i64 a1] 2 (0, 0)) (uB BK923.out) k_ hk_.1), (Kd.freshB (g := gb924) (o := .cells #[.int .i64 0, .slice none 0 0, .slice none 0 0] 26 (0, 0)) (uB BK924.out) k_ hk_.1)⟩)) (below_size (uH HB.out))); have HO932 := zA (Kd.R_lower (Kd.R_newB (Kd.R_mono (ok' := fun k_ => some k_ ≠ (v935 : Value).ownBlock ∧ some k_ ≠ (v938 : Value).ownBlock) ho1 (fun _ hk_ => hk_.2)) (g := gb923) (o := .cells #[.int .i64 a1] 2 (0, 0)) (uB BK923.out)) (below_size (uH HB.out))); have HO936 := zA (Kd.R_lower (Kd.R_newB (Kd.R_mono (ok' := fun k_ => some k_ ≠ (v931 : Value).ownBlock ∧ some k_ ≠ (v938 : Value).ownBlock) ho2 (fun _ hk_ => hk_.2)) (g := gb923) (o := .cells #[.int .i64 a1] 2 (0, 0)) (uB BK923.out)) (below_size (uH HB.out))); have HO939 := zA (Kd.R_lower (Kd.R_newB (Kd.R_mono (ok' := fun k_ => some k_ ≠ (v931 : Value).ownBlock ∧ some k_ ≠ (v935 : Value).ownBlock) ho3 (fun _ hk_ => hk_.2)) (g := gb923) (o := .cells #[.int .i64 a1] 2 (0, 0)) (uB BK923.out)) (below_size (uH HB.out))); replace BK922 := xB BK922 hb; replace BK923 := xB BK923 hb; replace BK924 := xB BK924 hb; replace HB := xH HB hb; (try clear hb); (try clear hb2); (try clear hk); (try clear hi); (try clear ho0); (try clear ho1); (try clear ho2); (try clear ho3)) | ((with_reducible refine gate_dst (N := 7) rfl ?_); refine bx 7 #[.slice none 0 0, .slice none 0 0, .int .i64 0, .slice none 0 0, .slice none 0 0] 95 ?_; intro gb941 hg w19 hbox hb; replace HO929 := zA (Kd.N_below (Kd.N_elderB (by (with_reducible repeat (first | apply Kd.N_alloc | apply Kd.N_drewN | apply Kd.N_drew)); exact HO929.out) gb941 (Nat.le_of_eq hg.symm)) hb); replace HO932 := xR HO932 hb; replace HO936 := xR HO936 hb; replace HO939 := xR HO939 hb; have BK941 := zA (hbox); have GW941 := gq HB hg; have GE941 := gq HB hg; replace HB := xH HB hb; have NB922_941 := zA ((by rw [hg]; exact neL BK922 : gb922 ≠ gb941)); have NB941_922 := zA ((by rw [hg]; exact neG BK922 : gb941 ≠ gb922)); replace BK922 := xB BK922 hb; have NB923_941 := zA ((by rw [hg]; exact neL BK923 : gb923 ≠ gb941)); have NB941_923 := zA ((by rw [hg]; exact neG BK923 : gb941 ≠ gb923)); replace BK923 := xB BK923 hb; have NB924_941 := zA ((by rw [hg]; exact neL BK924 : gb924 ≠ gb941)); have NB941_924 := zA ((by rw [hg]; exact neG BK924 : gb941 ≠ gb924)); replace BK924 := xB BK924 hb; have := geI GE941; clear hb hbox hg; obtain ⟨Ao20, co20, eo20⟩ := Kd.N_slice HO929.out; subst eo20; have hnb21 := NB941_922.out; have hnc21 := NB922_941.out; have hnb22 := NB941_923.out; have hnc22 := NB923_941.out; have hnb23 := NB941_924.out; have hnc23 := NB924_941.out; have hcz24_0 := bc BK941 0; have hcz24_1 := bc BK941 1; have hcz24_2 := bc BK941 2; have hcz24_3 := bc BK941 3; have hcz24_4 := bc BK941 4; have hfz24_0 := bf BK941 0; have hfz24_1 := bf BK941 1; have hfz24_2 := bf BK941 2; have hfz24_3 := bf BK941 3; have hfz24_4 := bf BK941 4; obtain ⟨Ao25, co25, eo25⟩ := Kd.R_slice HO932.out; subst eo25; obtain ⟨Ao26, co26, eo26⟩ := Kd.R_slice HO936.out; subst eo26; obtain ⟨Ao27, co27, eo27⟩ := Kd.R_slice HO939.out; subst eo27; have hcz28_0 := bc BK924 0; have hcz28_1 := bc BK924 1; have hcz28_2 := bc BK924 2; have hfz28_0 := bf BK924 0; have hfz28_1 := bf BK924 1; have hfz28_2 := bf BK924 2))
  refine bodyPost_ret (results_ct rfl _ _ gb924 26 #[.int .i64 t933, .slice Ao26 t934.length co26, .slice Ao27 t937.length co27] (0, 0) _ rfl (by (repeat refine up1 ?_); refine blk_put (cs := #[.int .i64 t933, .slice Ao26 t934.length co26, .slice none 0 0]) ?_ 2 _ rfl; (repeat refine up1 ?_); refine blk_put (cs := #[.int .i64 t933, .slice none 0 0, .slice none 0 0]) ?_ 1 _ rfl; (repeat refine up1 ?_); refine blk_put (cs := #[.int .i64 0, .slice none 0 0, .slice none 0 0]) ?_ 0 _ rfl; (repeat refine up1 ?_); refine blk_far ?_ NB924_941.out _; (repeat refine up1 ?_); refine blk_far ?_ NB924_941.out _; (repeat refine up1 ?_); refine blk_far ?_ NB924_941.out _; (repeat refine up1 ?_); refine blk_far ?_ NB924_941.out _; (repeat refine up1 ?_); refine blk_far ?_ NB924_941.out _; (repeat refine up1 ?_); exact BK924.out) Try.underlying26 rfl (by kernel_rfl)) rfl ?_
  exact ⟨_, _, by first | rfl | (simp [errW_none, errW_some] <;> rfl) | (simp [*, errW_none, errW_some] <;> rfl), uR (Kd.R_mono (Kd.R_far (p := ⟨gb924, 2, none⟩) (Kd.R_far (p := ⟨gb924, 1, none⟩) (Kd.R_far (p := ⟨gb924, 0, none⟩) (Kd.R_far (p := ⟨gb941, 4, none⟩) (Kd.R_far (p := ⟨gb941, 3, none⟩) (Kd.R_far (p := ⟨gb941, 2, none⟩) (Kd.R_far (p := ⟨gb941, 1, none⟩) (Kd.R_far (p := ⟨gb941, 0, none⟩) (Kd.R_types (Kd.R_types HO936.out BK941.out (by decide)) BK924.out (by decide)) (fun _ hk => hk.1.2) (.slice Ao20 t927.length co20)) (fun _ hk => hk.1.2) (.slice Ao25 t930.length co25)) (fun _ hk => hk.1.2) (.int .i64 t933)) (fun _ hk => hk.1.2) (.slice Ao26 t934.length co26)) (fun _ hk => hk.1.2) (.slice Ao27 t937.length co27)) (fun _ hk => hk.2) (.int .i64 t933)) (fun _ hk => hk.2) (.slice Ao26 t934.length co26)) (fun _ hk => hk.2) (.slice Ao27 t937.length co27)) (fun _ hk => hk.1.1.1.2)), uR (Kd.R_mono (Kd.R_far (p := ⟨gb924, 2, none⟩) (Kd.R_far (p := ⟨gb924, 1, none⟩) (Kd.R_far (p := ⟨gb924, 0, none⟩) (Kd.R_far (p := ⟨gb941, 4, none⟩) (Kd.R_far (p := ⟨gb941, 3, none⟩) (Kd.R_far (p := ⟨gb941, 2, none⟩) (Kd.R_far (p := ⟨gb941, 1, none⟩) (Kd.R_far (p := ⟨gb941, 0, none⟩) (Kd.R_types (Kd.R_types HO939.out BK941.out (by decide)) BK924.out (by decide)) (fun _ hk => hk.1.2) (.slice Ao20 t927.length co20)) (fun _ hk => hk.1.2) (.slice Ao25 t930.length co25)) (fun _ hk => hk.1.2) (.int .i64 t933)) (fun _ hk => hk.1.2) (.slice Ao26 t934.length co26)) (fun _ hk => hk.1.2) (.slice Ao27 t937.length co27)) (fun _ hk => hk.2) (.int .i64 t933)) (fun _ hk => hk.2) (.slice Ao26 t934.length co26)) (fun _ hk => hk.2) (.slice Ao27 t937.length co27)) (fun _ hk => hk.1.1.1.2)), uH HB.out⟩
 ·replace c7 := Bool.eq_false_iff.mpr c7
  subst c7
  have H1 : (some (0, ([] : List Int), ([] : List Int), 5)) = some (r1, r2, r3, r4) := by rw [if_neg (show ¬ (false = true) by decide)] at H; exact H
  clear H
  have H := H1
  clear H1
  simp only [Option.some.injEq, Prod.mk.injEq] at H
  obtain ⟨rfl, rfl, rfl, rfl⟩ := H
  go_enter Try.func50, Try.ntmps50
  go_wp2_with (first | ((with_reducible refine gate_dst (N := 2) rfl ?_); refine bx 2 #[.int .i64 a0_0, .slice A0_1 l0_1.length c0_1] 40 ?_; intro gb922 hg w29 hbox hb; have BK922 := zA (hbox); have GW922 := gq HB hg; have GE922 := gq HB hg; replace HB := xH HB hb; have := geI GE922; clear hb hbox hg) | ((with_reducible refine gate_dst (N := 3) rfl ?_); refine bx 3 #[.int .i64 a1] 2 ?_; intro gb923 hg w30 hbox hb; have BK923 := zA (hbox); have GW923 := gq HB hg; have GE923 := gq HB hg; replace HB := xH HB hb; have NB922_923 := zA ((by rw [hg]; exact neL BK922 : gb922 ≠ gb923)); have NB923_922 := zA ((by rw [hg]; exact neG BK922 : gb923 ≠ gb922)); replace BK922 := xB BK922 hb; have := geI GE923; clear hb hbox hg) | ((with_reducible refine gate_dst (N := 4) rfl ?_); refine bx 4 #[.int .i64 0, .slice none 0 0, .slice none 0 0] 26 ?_; intro gb924 hg w31 hbox hb; have BK924 := zA (hbox); have GW924 := gq HB hg; have GE924 := gq HB hg; replace HB := xH HB hb; have NB922_924 := zA ((by rw [hg]; exact neL BK922 : gb922 ≠ gb924)); have NB924_922 := zA ((by rw [hg]; exact neG BK922 : gb924 ≠ gb922)); replace BK922 := xB BK922 hb; have NB923_924 := zA ((by rw [hg]; exact neL BK923 : gb923 ≠ gb924)); have NB924_923 := zA ((by rw [hg]; exact neG BK923 : gb924 ≠ gb923)); replace BK923 := xB BK923 hb; have := geI GE924; clear hb hbox hg; have hnb32 := NB922_923.out; have hnc32 := NB923_922.out; have hnb33 := NB922_924.out; have hnc33 := NB924_922.out; have hcz34_0 := bc BK922 0; have hcz34_1 := bc BK922 1; have hfz34_0 := bf BK922 0; have hfz34_1 := bf BK922 1) | ((with_reducible refine gate_callee (f := 68) rfl ?_); refine gL (some 11) Try.func68 #[.agg #[.int .i64 a0_0, .slice A0_1 l0_1.length c0_1], (.func (.func 111) #[] #[.pointer (some ⟨gb923, 0, none⟩)]), .slice none 0 0] ?_; (refine (impl_momentsCode.calls k a0_0 _ _ l0_1 _ t925 _ _ ([] : List (List Int)) t926 _ ?side1 ?side2 ?side3 ?side4 ?side5 A4.out).mono ?_); (case side1 => exact uC ((Kd.C_below HR0_1.out HB.out))); (case side2 => exact HC0_1.out); (case side3 => exact FnB.of Try.func111 (by kernel_rfl) rfl (fun W_ hW_ => calls_of_args (args' := #[.pointer (some ⟨gb923, 0, none⟩)]) (by simp) ((impl_JacobiOfMoments_1.calls _ a1 _ W_ (blk_below (g := gb923) (o := .cells #[.int .i64 a1] 2 (0, 0)) (uB BK923.out) hW_) A3.out).mono fun e_ W2_ h_ => ⟨h_.1, h_.2.below⟩))); (case side4 => exact Kd.C_nil _ _); (case side5 => exact Nat.le_refl _); rintro e w35 ⟨rfl, hb⟩; refine ⟨_, rfl, ?_⟩; replace BK922 := xB BK922 hb; replace BK923 := xB BK923 hb; replace BK924 := xB BK924 hb; replace HB := xH HB hb; (try clear hb); (try clear hb2); (try clear hk); (try clear hi); have hcz36_0 := bc BK922 0; have hcz36_1 := bc BK922 1; have hfz36_0 := bf BK922 0; have hfz36_1 := bf BK922 1; have hnb37 := NB923_924.out; have hnc37 := NB924_923.out; have hcz38_0 := bc BK923 0; have hfz38_0 := bf BK923 0) | ((with_reducible refine gate_callee (f := 88) rfl ?_); refine gL (some 19) Try.func88 #[.agg #[.int .i64 a0_0, .slice A0_1 l0_1.length c0_1], .int .i64 a1] ?_; (with_reducible refine (impl_Moments_upTo.calls k a0_0 _ _ l0_1 a1 t927 t930 t933 t934 t937 false _ ?side1 ?side2 A6.out).mono ?_); (case side1 => exact uC ((Kd.C_below HR0_1.out HB.out))); (case side2 => exact HC0_1.out); rintro e w39 ⟨v928, v931, v935, v938, rfl, ho0, ho1, ho2, ho3, hb⟩; refine ⟨_, rfl, ?_⟩; have HO929 := zA (Kd.N_lower (Kd.N_mono (ok' := fun k_ => some k_ ≠ (v931 : Value).ownBlock ∧ some k_ ≠ (v935 : Value).ownBlock ∧ some k_ ≠ (v938 : Value).ownBlock ∧ k_ ≠ gb922 ∧ k_ ≠ gb923 ∧ k_ ≠ gb924) ho0 (fun k_ hk_ => ⟨hk_.2.1, hk_.2.2.1, hk_.2.2.2, (Kd.freshB (g := gb922) (o := .cells #[.int .i64 a0_0, .slice A0_1 l0_1.length c0_1] 40 (0, 0)) (uB BK922.out) k_ hk_.1), (Kd.freshB (g := gb923) (o := .cells #[.int .i64 a1] 2 (0, 0)) (uB BK923.out) k_ hk_.1), (Kd.freshB (g := gb924) (o := .cells #[.int .i64 0, .slice none 0 0, .slice none 0 0] 26 (0, 0)) (uB BK924.out) k_ hk_.1)⟩)) (below_size (uH HB.out))); have HO932 := zA (Kd.R_lower (Kd.R_newB (Kd.R_mono (ok' := fun k_ => some k_ ≠ (v935 : Value).ownBlock ∧ some k_ ≠ (v938 : Value).ownBlock) ho1 (fun _ hk_ => hk_.2)) (g := gb923) (o := .cells #[.int .i64 a1] 2 (0, 0)) (uB BK923.out)) (below_size (uH HB.out))); have HO936 := zA (Kd.R_lower (Kd.R_newB (Kd.R_mono (ok' := fun k_ => some k_ ≠ (v931 : Value).ownBlock ∧ some k_ ≠ (v938 : Value).ownBlock) ho2 (fun _ hk_ => hk_.2)) (g := gb923) (o := .cells #[.int .i64 a1] 2 (0, 0)) (uB BK923.out)) (below_size (uH HB.out))); have HO939 := zA (Kd.R_lower (Kd.R_newB (Kd.R_mono (ok' := fun k_ => some k_ ≠ (v931 : Value).ownBlock ∧ some k_ ≠ (v935 : Value).ownBlock) ho3 (fun _ hk_ => hk_.2)) (g := gb923) (o := .cells #[.int .i64 a1] 2 (0, 0)) (uB BK923.out)) (below_size (uH HB.out))); replace BK922 := xB BK922 hb; replace BK923 := xB BK923 hb; replace BK924 := xB BK924 hb; replace HB := xH HB hb; (try clear hb); (try clear hb2); (try clear hk); (try clear hi); (try clear ho0); (try clear ho1); (try clear ho2); (try clear ho3)) | ((with_reducible refine gate_dst (N := 7) rfl ?_); refine bx 7 #[.slice none 0 0, .slice none 0 0, .int .i64 0, .slice none 0 0, .slice none 0 0] 95 ?_; intro gb941 hg w40 hbox hb; replace HO929 := zA (Kd.N_below (Kd.N_elderB (by (with_reducible repeat (first | apply Kd.N_alloc | apply Kd.N_drewN | apply Kd.N_drew)); exact HO929.out) gb941 (Nat.le_of_eq hg.symm)) hb); replace HO932 := xR HO932 hb; replace HO936 := xR HO936 hb; replace HO939 := xR HO939 hb; have BK941 := zA (hbox); have GW941 := gq HB hg; have GE941 := gq HB hg; replace HB := xH HB hb; have NB922_941 := zA ((by rw [hg]; exact neL BK922 : gb922 ≠ gb941)); have NB941_922 := zA ((by rw [hg]; exact neG BK922 : gb941 ≠ gb922)); replace BK922 := xB BK922 hb; have NB923_941 := zA ((by rw [hg]; exact neL BK923 : gb923 ≠ gb941)); have NB941_923 := zA ((by rw [hg]; exact neG BK923 : gb941 ≠ gb923)); replace BK923 := xB BK923 hb; have NB924_941 := zA ((by rw [hg]; exact neL BK924 : gb924 ≠ gb941)); have NB941_924 := zA ((by rw [hg]; exact neG BK924 : gb941 ≠ gb924)); replace BK924 := xB BK924 hb; have := geI GE941; clear hb hbox hg; obtain ⟨Ao41, co41, eo41⟩ := Kd.N_slice HO929.out; subst eo41; have hnb42 := NB941_922.out; have hnc42 := NB922_941.out; have hnb43 := NB941_923.out; have hnc43 := NB923_941.out; have hnb44 := NB941_924.out; have hnc44 := NB924_941.out; have hcz45_0 := bc BK941 0; have hcz45_1 := bc BK941 1; have hcz45_2 := bc BK941 2; have hcz45_3 := bc BK941 3; have hcz45_4 := bc BK941 4; have hfz45_0 := bf BK941 0; have hfz45_1 := bf BK941 1; have hfz45_2 := bf BK941 2; have hfz45_3 := bf BK941 3; have hfz45_4 := bf BK941 4; obtain ⟨Ao46, co46, eo46⟩ := Kd.R_slice HO932.out; subst eo46; obtain ⟨Ao47, co47, eo47⟩ := Kd.R_slice HO936.out; subst eo47; obtain ⟨Ao48, co48, eo48⟩ := Kd.R_slice HO939.out; subst eo48; have hcz49_0 := bc BK924 0; have hcz49_1 := bc BK924 1; have hcz49_2 := bc BK924 2; have hfz49_0 := bf BK924 0; have hfz49_1 := bf BK924 1; have hfz49_2 := bf BK924 2))
  refine bodyPost_ret (results_ct rfl _ _ gb924 26 #[.int .i64 0, .slice none 0 0, .slice none 0 0] (0, 0) _ rfl (by (repeat refine up1 ?_); refine blk_put (cs := #[.int .i64 0, .slice none 0 0, .slice none 0 0]) ?_ 2 _ rfl; (repeat refine up1 ?_); refine blk_put (cs := #[.int .i64 0, .slice none 0 0, .slice none 0 0]) ?_ 1 _ rfl; (repeat refine up1 ?_); refine blk_put (cs := #[.int .i64 0, .slice none 0 0, .slice none 0 0]) ?_ 0 _ rfl; (repeat refine up1 ?_); refine blk_far ?_ NB924_941.out _; (repeat refine up1 ?_); refine blk_far ?_ NB924_941.out _; (repeat refine up1 ?_); refine blk_far ?_ NB924_941.out _; (repeat refine up1 ?_); refine blk_far ?_ NB924_941.out _; (repeat refine up1 ?_); refine blk_far ?_ NB924_941.out _; (repeat refine up1 ?_); exact BK924.out) Try.underlying26 rfl (by kernel_rfl)) rfl ?_
  exact ⟨_, _, by first | rfl | (simp [errW_none, errW_some] <;> rfl) | (simp [*, errW_none, errW_some] <;> rfl), by first | exact Kd.R_nil _ _ _ _ _ | exact Kd.N_nil _ _ _ _ _ | exact Kd.V_nil _ _ _ _ _ | exact Kd.Q_nil _ _ _ _ _ | exact Kd.S_nil _ _ _ _ _, by first | exact Kd.R_nil _ _ _ _ _ | exact Kd.N_nil _ _ _ _ _ | exact Kd.V_nil _ _ _ _ _ | exact Kd.Q_nil _ _ _ _ _ | exact Kd.S_nil _ _ _ _ _, uH HB.out⟩
/-! ### laws_eqJacobi: function 19 -/
def laws_eqJacobi.f (k : Nat) (a0_0 : Int) (l0_1 : List Int) (l0_2 : List Int) (a1_0 : Int) (l1_1 : List Int) (l1_2 : List Int) : Option (Bool) := if a0_0 = a1_0 then ((laws_eqInt64S.f k l0_1 l1_1).bind fun t886 => (if t886 = true then ((laws_eqInt64S.f k l0_2 l1_2).bind fun t887 => (if t887 = true then (some true) else (some false))) else (some false))) else (some false)
set_option maxHeartbeats 8000000 in
set_option maxRecDepth 100000 in
theorem laws_eqJacobi.calls (k : Nat) (a0_0 : Int) (A0_1 : Option Addr) (c0_1 : Nat) (l0_1 : List Int) (A0_2 : Option Addr) (c0_2 : Nat) (l0_2 : List Int) (a1_0 : Int) (A1_1 : Option Addr) (c1_1 : Nat) (l1_1 : List Int) (A1_2 : Option Addr) (c1_2 : Nat) (l1_2 : List Int) (r : Bool) (w : World) (hr0_1 : Kd.C (Kd.int .i64) w A0_1 l0_1.length l0_1) (hc0_1 : l0_1.length ≤ c0_1) (hr0_2 : Kd.C (Kd.int .i64) w A0_2 l0_2.length l0_2) (hc0_2 : l0_2.length ≤ c0_2) (hr1_1 : Kd.C (Kd.int .i64) w A1_1 l1_1.length l1_1) (hc1_1 : l1_1.length ≤ c1_1) (hr1_2 : Kd.C (Kd.int .i64) w A1_2 l1_2.length l1_2) (hc1_2 : l1_2.length ≤ c1_2) (h : laws_eqJacobi.f k a0_0 l0_1 l0_2 a1_0 l1_1 l1_2 = some r) :
  Calls Try.prog 19 #[.agg #[.int .i64 a0_0, .slice A0_1 l0_1.length c0_1, .slice A0_2 l0_2.length c0_2], .agg #[.int .i64 a1_0, .slice A1_1 l1_1.length c1_1, .slice A1_2 l1_2.length c1_2]] w fun e w' => e = .returned (.bool r) ∧ Below w.heap.size w w' := by
 have hu26 := Try.underlying26
 have HR0_1 := zA hr0_1
 have HC0_1 := zA hc0_1
 clear hr0_1 hc0_1
 have HR0_2 := zA hr0_2
 have HC0_2 := zA hc0_2
 clear hr0_2 hc0_2
 have HR1_1 := zA hr1_1
 have HC1_1 := zA hc1_1
 clear hr1_1 hc1_1
 have HR1_2 := zA hr1_2
 have HC1_2 := zA hc1_2
 clear hr1_2 hc1_2
 have HB := zA (Below.refl w.heap.size w)
 have H : (if a0_0 = a1_0 then ((laws_eqInt64S.f k l0_1 l1_1).bind fun t886 => (if t886 = true then ((laws_eqInt64S.f k l0_2 l1_2).bind fun t887 => (if t887 = true then (some true) else (some false))) else (some false))) else (some false)) = some r := h
 clear h
 by_cases c3 : a0_0 = a1_0
 rotate_left
 ·rw [if_neg c3] at H
  have c3b0 : (a0_0 == a1_0) = false := beq_eq_false_iff_ne.mpr c3
  have c3b1 : (a0_0 != a1_0) = true := bne_iff_ne.mpr c3
  obtain rfl := Option.some.inj H
  go_enter Try.func19, Try.ntmps19
  go_wp2_with (first | ((with_reducible refine gate_dst (N := 2) rfl ?_); refine bx 2 #[.int .i64 a0_0, .slice A0_1 l0_1.length c0_1, .slice A0_2 l0_2.length c0_2] 26 ?_; intro gb884 hg w23 hbox hb; have BK884 := zA (hbox); have GW884 := gq HB hg; have GE884 := gq HB hg; replace HB := xH HB hb; have := geI GE884; clear hb hbox hg) | ((with_reducible refine gate_dst (N := 3) rfl ?_); refine bx 3 #[.int .i64 a1_0, .slice A1_1 l1_1.length c1_1, .slice A1_2 l1_2.length c1_2] 26 ?_; intro gb885 hg w24 hbox hb; have BK885 := zA (hbox); have GW885 := gq HB hg; have GE885 := gq HB hg; replace HB := xH HB hb; have NB884_885 := zA ((by rw [hg]; exact neL BK884 : gb884 ≠ gb885)); have NB885_884 := zA ((by rw [hg]; exact neG BK884 : gb885 ≠ gb884)); replace BK884 := xB BK884 hb; have := geI GE885; clear hb hbox hg; have hnb25 := NB884_885.out; have hnc25 := NB885_884.out; have hcz26_0 := bc BK884 0; have hcz26_1 := bc BK884 1; have hcz26_2 := bc BK884 2; have hfz26_0 := bf BK884 0; have hfz26_1 := bf BK884 1; have hfz26_2 := bf BK884 2; have hcz27_0 := bc BK885 0; have hcz27_1 := bc BK885 1; have hcz27_2 := bc BK885 2; have hfz27_0 := bf BK885 0; have hfz27_1 := bf BK885 1; have hfz27_2 := bf BK885 2))
  go_ret
  exact ⟨by first | rfl | (simp [errW_none, errW_some] <;> rfl) | (simp [*, errW_none, errW_some] <;> rfl), uH HB.out⟩

 rw [if_pos c3] at H
 have c3b0 : (a0_0 == a1_0) = true := beq_iff_eq.mpr c3
 have c3b1 : (a0_0 != a1_0) = false := bne_eq_false_iff_eq.mpr c3
 clear c3
 replace H := Option.bind_eq_some_iff.mp H
 obtain ⟨t886, A40, H⟩ := H
 replace H : (if t886 = true then ((laws_eqInt64S.f k l0_2 l1_2).bind fun t887 => (if t887 = true then (some true) else (some false))) else (some false)) = some r := H
 have A4 := zA A40
 clear A40
 by_cases c5 : t886 = true
 ·subst c5
  have H1 : ((laws_eqInt64S.f k l0_2 l1_2).bind fun t887 => (if t887 = true then (some true) else (some false))) = some r := by rw [if_pos rfl] at H; exact H
  clear H
  have H := H1
  clear H1
  replace H := Option.bind_eq_some_iff.mp H
  obtain ⟨t887, A60, H⟩ := H
  replace H : (if t887 = true then (some true) else (some false)) = some r := H
  have A6 := zA A60
  clear A60
  by_cases c7 : t887 = true
  ·subst c7
   have H1 : (some true) = some r := by rw [if_pos rfl] at H; exact H
   clear H
   have H := H1
   clear H1
   obtain rfl := Option.some.inj H
   go_enter Try.func19, Try.ntmps19
   go_wp2_with (first | ((with_reducible refine gate_dst (N := 2) rfl ?_); refine bx 2 #[.int .i64 a0_0, .slice A0_1 l0_1.length c0_1, .slice A0_2 l0_2.length c0_2] 26 ?_; intro gb884 hg w8 hbox hb; have BK884 := zA (hbox); have GW884 := gq HB hg; have GE884 := gq HB hg; replace HB := xH HB hb; have := geI GE884; clear hb hbox hg) | ((with_reducible refine gate_dst (N := 3) rfl ?_); refine bx 3 #[.int .i64 a1_0, .slice A1_1 l1_1.length c1_1, .slice A1_2 l1_2.length c1_2] 26 ?_; intro gb885 hg w9 hbox hb; have BK885 := zA (hbox); have GW885 := gq HB hg; have GE885 := gq HB hg; replace HB := xH HB hb; have NB884_885 := zA ((by rw [hg]; exact neL BK884 : gb884 ≠ gb885)); have NB885_884 := zA ((by rw [hg]; exact neG BK884 : gb885 ≠ gb884)); replace BK884 := xB BK884 hb; have := geI GE885; clear hb hbox hg; have hnb10 := NB884_885.out; have hnc10 := NB885_884.out; have hcz11_0 := bc BK884 0; have hcz11_1 := bc BK884 1; have hcz11_2 := bc BK884 2; have hfz11_0 := bf BK884 0; have hfz11_1 := bf BK884 1; have hfz11_2 := bf BK884 2; have hcz12_0 := bc BK885 0; have hcz12_1 := bc BK885 1; have hcz12_2 := bc BK885 2; have hfz12_0 := bf BK885 0; have hfz12_1 := bf BK885 1; have hfz12_2 := bf BK885 2) | ((with_reducible refine gate_callee (f := 29) rfl ?_); refine gL (some 14) Try.func29 #[.slice A0_1 l0_1.length c0_1, .slice A1_1 l1_1.length c1_1] ?_; (with_reducible refine (laws_eqInt64S.calls k _ _ l0_1 _ _ l1_1 true _ ?side1 ?side2 ?side3 ?side4 A4.out).mono ?_); (case side1 => exact uC ((Kd.C_below HR0_1.out HB.out))); (case side2 => exact HC0_1.out); (case side3 => exact uC ((Kd.C_below HR1_1.out HB.out))); (case side4 => exact HC1_1.out); rintro e w' ⟨rfl, ⟨nd, rfl⟩⟩; refine ⟨_, rfl, ?_⟩) | ((with_reducible refine gate_callee (f := 29) rfl ?_); refine gL (some 20) Try.func29 #[.slice A0_2 l0_2.length c0_2, .slice A1_2 l1_2.length c1_2] ?_; (with_reducible refine (laws_eqInt64S.calls k _ _ l0_2 _ _ l1_2 true _ ?side1 ?side2 ?side3 ?side4 A6.out).mono ?_); (case side1 => repeat (first | exact (Kd.C_below HR0_2.out (uH HB.out)) | (with_reducible refine Kd.C_alloc ?_ _) | (with_reducible refine Kd.C_drewN ?_ _) | (with_reducible refine Kd.C_drew ?_))); (case side2 => exact HC0_2.out); (case side3 => repeat (first | exact (Kd.C_below HR1_2.out (uH HB.out)) | (with_reducible refine Kd.C_alloc ?_ _) | (with_reducible refine Kd.C_drewN ?_ _) | (with_reducible refine Kd.C_drew ?_))); (case side4 => exact HC1_2.out); rintro e w' ⟨rfl, ⟨nd, rfl⟩⟩; refine ⟨_, rfl, ?_⟩))
   go_ret
   exact ⟨by first | rfl | (simp [errW_none, errW_some] <;> rfl) | (simp [*, errW_none, errW_some] <;> rfl), uH HB.out⟩
  ·replace c7 := Bool.eq_false_iff.mpr c7
   subst c7
   have H1 : (some false) = some r := by rw [if_neg (show ¬ (false = true) by decide)] at H; exact H
   clear H
   have H := H1
   clear H1
   obtain rfl := Option.some.inj H
   go_enter Try.func19, Try.ntmps19
   go_wp2_with (first | ((with_reducible refine gate_dst (N := 2) rfl ?_); refine bx 2 #[.int .i64 a0_0, .slice A0_1 l0_1.length c0_1, .slice A0_2 l0_2.length c0_2] 26 ?_; intro gb884 hg w13 hbox hb; have BK884 := zA (hbox); have GW884 := gq HB hg; have GE884 := gq HB hg; replace HB := xH HB hb; have := geI GE884; clear hb hbox hg) | ((with_reducible refine gate_dst (N := 3) rfl ?_); refine bx 3 #[.int .i64 a1_0, .slice A1_1 l1_1.length c1_1, .slice A1_2 l1_2.length c1_2] 26 ?_; intro gb885 hg w14 hbox hb; have BK885 := zA (hbox); have GW885 := gq HB hg; have GE885 := gq HB hg; replace HB := xH HB hb; have NB884_885 := zA ((by rw [hg]; exact neL BK884 : gb884 ≠ gb885)); have NB885_884 := zA ((by rw [hg]; exact neG BK884 : gb885 ≠ gb884)); replace BK884 := xB BK884 hb; have := geI GE885; clear hb hbox hg; have hnb15 := NB884_885.out; have hnc15 := NB885_884.out; have hcz16_0 := bc BK884 0; have hcz16_1 := bc BK884 1; have hcz16_2 := bc BK884 2; have hfz16_0 := bf BK884 0; have hfz16_1 := bf BK884 1; have hfz16_2 := bf BK884 2; have hcz17_0 := bc BK885 0; have hcz17_1 := bc BK885 1; have hcz17_2 := bc BK885 2; have hfz17_0 := bf BK885 0; have hfz17_1 := bf BK885 1; have hfz17_2 := bf BK885 2) | ((with_reducible refine gate_callee (f := 29) rfl ?_); refine gL (some 14) Try.func29 #[.slice A0_1 l0_1.length c0_1, .slice A1_1 l1_1.length c1_1] ?_; (with_reducible refine (laws_eqInt64S.calls k _ _ l0_1 _ _ l1_1 true _ ?side1 ?side2 ?side3 ?side4 A4.out).mono ?_); (case side1 => exact uC ((Kd.C_below HR0_1.out HB.out))); (case side2 => exact HC0_1.out); (case side3 => exact uC ((Kd.C_below HR1_1.out HB.out))); (case side4 => exact HC1_1.out); rintro e w' ⟨rfl, ⟨nd, rfl⟩⟩; refine ⟨_, rfl, ?_⟩) | ((with_reducible refine gate_callee (f := 29) rfl ?_); refine gL (some 20) Try.func29 #[.slice A0_2 l0_2.length c0_2, .slice A1_2 l1_2.length c1_2] ?_; (with_reducible refine (laws_eqInt64S.calls k _ _ l0_2 _ _ l1_2 false _ ?side1 ?side2 ?side3 ?side4 A6.out).mono ?_); (case side1 => repeat (first | exact (Kd.C_below HR0_2.out (uH HB.out)) | (with_reducible refine Kd.C_alloc ?_ _) | (with_reducible refine Kd.C_drewN ?_ _) | (with_reducible refine Kd.C_drew ?_))); (case side2 => exact HC0_2.out); (case side3 => repeat (first | exact (Kd.C_below HR1_2.out (uH HB.out)) | (with_reducible refine Kd.C_alloc ?_ _) | (with_reducible refine Kd.C_drewN ?_ _) | (with_reducible refine Kd.C_drew ?_))); (case side4 => exact HC1_2.out); rintro e w' ⟨rfl, ⟨nd, rfl⟩⟩; refine ⟨_, rfl, ?_⟩))
   go_ret
   exact ⟨by first | rfl | (simp [errW_none, errW_some] <;> rfl) | (simp [*, errW_none, errW_some] <;> rfl), uH HB.out⟩
 ·replace c5 := Bool.eq_false_iff.mpr c5
  subst c5
  have H1 : (some false) = some r := by rw [if_neg (show ¬ (false = true) by decide)] at H; exact H
  clear H
  have H := H1
  clear H1
  obtain rfl := Option.some.inj H
  go_enter Try.func19, Try.ntmps19
  go_wp2_with (first | ((with_reducible refine gate_dst (N := 2) rfl ?_); refine bx 2 #[.int .i64 a0_0, .slice A0_1 l0_1.length c0_1, .slice A0_2 l0_2.length c0_2] 26 ?_; intro gb884 hg w18 hbox hb; have BK884 := zA (hbox); have GW884 := gq HB hg; have GE884 := gq HB hg; replace HB := xH HB hb; have := geI GE884; clear hb hbox hg) | ((with_reducible refine gate_dst (N := 3) rfl ?_); refine bx 3 #[.int .i64 a1_0, .slice A1_1 l1_1.length c1_1, .slice A1_2 l1_2.length c1_2] 26 ?_; intro gb885 hg w19 hbox hb; have BK885 := zA (hbox); have GW885 := gq HB hg; have GE885 := gq HB hg; replace HB := xH HB hb; have NB884_885 := zA ((by rw [hg]; exact neL BK884 : gb884 ≠ gb885)); have NB885_884 := zA ((by rw [hg]; exact neG BK884 : gb885 ≠ gb884)); replace BK884 := xB BK884 hb; have := geI GE885; clear hb hbox hg; have hnb20 := NB884_885.out; have hnc20 := NB885_884.out; have hcz21_0 := bc BK884 0; have hcz21_1 := bc BK884 1; have hcz21_2 := bc BK884 2; have hfz21_0 := bf BK884 0; have hfz21_1 := bf BK884 1; have hfz21_2 := bf BK884 2; have hcz22_0 := bc BK885 0; have hcz22_1 := bc BK885 1; have hcz22_2 := bc BK885 2; have hfz22_0 := bf BK885 0; have hfz22_1 := bf BK885 1; have hfz22_2 := bf BK885 2) | ((with_reducible refine gate_callee (f := 29) rfl ?_); refine gL (some 14) Try.func29 #[.slice A0_1 l0_1.length c0_1, .slice A1_1 l1_1.length c1_1] ?_; (with_reducible refine (laws_eqInt64S.calls k _ _ l0_1 _ _ l1_1 false _ ?side1 ?side2 ?side3 ?side4 A4.out).mono ?_); (case side1 => exact uC ((Kd.C_below HR0_1.out HB.out))); (case side2 => exact HC0_1.out); (case side3 => exact uC ((Kd.C_below HR1_1.out HB.out))); (case side4 => exact HC1_1.out); rintro e w' ⟨rfl, ⟨nd, rfl⟩⟩; refine ⟨_, rfl, ?_⟩))
  go_ret
  exact ⟨by first | rfl | (simp [errW_none, errW_some] <;> rfl) | (simp [*, errW_none, errW_some] <;> rfl), uH HB.out⟩
/-! ### laws_heldJacobi: function 21 -/
def laws_heldJacobi.f (k : Nat) (a0_0 : Int) (l0_1 : List Int) (l0_2 : List Int) (a1 : Int) : Option (Int) := (laws_heldInt64S.f k l0_1 a1).bind fun t894 => (if t894 < 0 then (some (-1)) else ((laws_heldInt64S.f k l0_2 t894).bind fun t895 => (if t895 < 0 then (some (-1)) else (some t895))))
set_option maxHeartbeats 8000000 in
set_option maxRecDepth 100000 in
theorem laws_heldJacobi.calls (k : Nat) (a0_0 : Int) (A0_1 : Option Addr) (c0_1 : Nat) (l0_1 : List Int) (A0_2 : Option Addr) (c0_2 : Nat) (l0_2 : List Int) (a1 : Int) (r : Int) (w : World) (hr0_1 : Kd.C (Kd.int .i64) w A0_1 l0_1.length l0_1) (hc0_1 : l0_1.length ≤ c0_1) (hr0_2 : Kd.C (Kd.int .i64) w A0_2 l0_2.length l0_2) (hc0_2 : l0_2.length ≤ c0_2) (h : laws_heldJacobi.f k a0_0 l0_1 l0_2 a1 = some r) :
  Calls Try.prog 21 #[.agg #[.int .i64 a0_0, .slice A0_1 l0_1.length c0_1, .slice A0_2 l0_2.length c0_2], .int .i64 a1] w fun e w' => e = .returned (.int .i64 r) ∧ Below w.heap.size w w' := by
 have hu26 := Try.underlying26
 have HR0_1 := zA hr0_1
 have HC0_1 := zA hc0_1
 clear hr0_1 hc0_1
 have HR0_2 := zA hr0_2
 have HC0_2 := zA hc0_2
 clear hr0_2 hc0_2
 have HB := zA (Below.refl w.heap.size w)
 have H : ((laws_heldInt64S.f k l0_1 a1).bind fun t894 => (if t894 < 0 then (some (-1)) else ((laws_heldInt64S.f k l0_2 t894).bind fun t895 => (if t895 < 0 then (some (-1)) else (some t895))))) = some r := h
 clear h
 replace H := Option.bind_eq_some_iff.mp H
 obtain ⟨t894, A30, H⟩ := H
 replace H : (if t894 < 0 then (some (-1)) else ((laws_heldInt64S.f k l0_2 t894).bind fun t895 => (if t895 < 0 then (some (-1)) else (some t895)))) = some r := H
 have A3 := zA A30
 clear A30
 by_cases c4 : t894 < 0
 rotate_left
 ·rw [if_neg c4] at H
  have c4b0 : decide (t894 < 0) = false := decide_eq_false c4
  clear c4
  replace H := Option.bind_eq_some_iff.mp H
  obtain ⟨t895, A70, H⟩ := H
  replace H : (if t895 < 0 then (some (-1)) else (some t895)) = some r := H
  have A7 := zA A70
  clear A70
  by_cases c8 : t895 < 0
  rotate_left
  ·rw [if_neg c8] at H
   have c8b0 : decide (t895 < 0) = false := decide_eq_false c8
   clear c8
   obtain rfl := Option.some.inj H
   go_enter Try.func21, Try.ntmps21
   go_wp2_with (first | ((with_reducible refine gate_dst (N := 2) rfl ?_); refine bx 2 #[.int .i64 a0_0, .slice A0_1 l0_1.length c0_1, .slice A0_2 l0_2.length c0_2] 26 ?_; intro gb893 hg w11 hbox hb; have BK893 := zA (hbox); have GW893 := gq HB hg; have GE893 := gq HB hg; replace HB := xH HB hb; have := geI GE893; clear hb hbox hg; have hcz12_0 := bc BK893 0; have hcz12_1 := bc BK893 1; have hcz12_2 := bc BK893 2; have hfz12_0 := bf BK893 0; have hfz12_1 := bf BK893 1; have hfz12_2 := bf BK893 2) | ((with_reducible refine gate_callee (f := 40) rfl ?_); refine gL (some 8) Try.func40 #[.slice A0_1 l0_1.length c0_1, .int .i64 a1] ?_; (with_reducible refine (laws_heldInt64S.calls k _ _ l0_1 a1 t894 _ ?side1 ?side2 A3.out).mono ?_); (case side1 => exact uC ((Kd.C_below HR0_1.out HB.out))); (case side2 => exact HC0_1.out); rintro e w' ⟨rfl, ⟨nd, rfl⟩⟩; refine ⟨_, rfl, ?_⟩) | ((with_reducible refine gate_callee (f := 40) rfl ?_); refine gL (some 14) Try.func40 #[.slice A0_2 l0_2.length c0_2, .int .i64 t894] ?_; (with_reducible refine (laws_heldInt64S.calls k _ _ l0_2 t894 t895 _ ?side1 ?side2 A7.out).mono ?_); (case side1 => repeat (first | exact (Kd.C_below HR0_2.out (uH HB.out)) | (with_reducible refine Kd.C_alloc ?_ _) | (with_reducible refine Kd.C_drewN ?_ _) | (with_reducible refine Kd.C_drew ?_))); (case side2 => exact HC0_2.out); rintro e w' ⟨rfl, ⟨nd, rfl⟩⟩; refine ⟨_, rfl, ?_⟩))
   go_ret
   exact ⟨by first | rfl | (simp [errW_none, errW_some] <;> rfl) | (simp [*, errW_none, errW_some] <;> rfl), uH HB.out⟩

  rw [if_pos c8] at H
  have c8b0 : decide (t895 < 0) = true := decide_eq_true c8
  clear c8
  obtain rfl := Option.some.inj H
  go_enter Try.func21, Try.ntmps21
  go_wp2_with (first | ((with_reducible refine gate_dst (N := 2) rfl ?_); refine bx 2 #[.int .i64 a0_0, .slice A0_1 l0_1.length c0_1, .slice A0_2 l0_2.length c0_2] 26 ?_; intro gb893 hg w9 hbox hb; have BK893 := zA (hbox); have GW893 := gq HB hg; have GE893 := gq HB hg; replace HB := xH HB hb; have := geI GE893; clear hb hbox hg; have hcz10_0 := bc BK893 0; have hcz10_1 := bc BK893 1; have hcz10_2 := bc BK893 2; have hfz10_0 := bf BK893 0; have hfz10_1 := bf BK893 1; have hfz10_2 := bf BK893 2) | ((with_reducible refine gate_callee (f := 40) rfl ?_); refine gL (some 8) Try.func40 #[.slice A0_1 l0_1.length c0_1, .int .i64 a1] ?_; (with_reducible refine (laws_heldInt64S.calls k _ _ l0_1 a1 t894 _ ?side1 ?side2 A3.out).mono ?_); (case side1 => exact uC ((Kd.C_below HR0_1.out HB.out))); (case side2 => exact HC0_1.out); rintro e w' ⟨rfl, ⟨nd, rfl⟩⟩; refine ⟨_, rfl, ?_⟩) | ((with_reducible refine gate_callee (f := 40) rfl ?_); refine gL (some 14) Try.func40 #[.slice A0_2 l0_2.length c0_2, .int .i64 t894] ?_; (with_reducible refine (laws_heldInt64S.calls k _ _ l0_2 t894 t895 _ ?side1 ?side2 A7.out).mono ?_); (case side1 => repeat (first | exact (Kd.C_below HR0_2.out (uH HB.out)) | (with_reducible refine Kd.C_alloc ?_ _) | (with_reducible refine Kd.C_drewN ?_ _) | (with_reducible refine Kd.C_drew ?_))); (case side2 => exact HC0_2.out); rintro e w' ⟨rfl, ⟨nd, rfl⟩⟩; refine ⟨_, rfl, ?_⟩))
  go_ret
  exact ⟨by first | rfl | (simp [errW_none, errW_some] <;> rfl) | (simp [*, errW_none, errW_some] <;> rfl), uH HB.out⟩
 rw [if_pos c4] at H
 have c4b0 : decide (t894 < 0) = true := decide_eq_true c4
 clear c4
 obtain rfl := Option.some.inj H
 go_enter Try.func21, Try.ntmps21
 go_wp2_with (first | ((with_reducible refine gate_dst (N := 2) rfl ?_); refine bx 2 #[.int .i64 a0_0, .slice A0_1 l0_1.length c0_1, .slice A0_2 l0_2.length c0_2] 26 ?_; intro gb893 hg w5 hbox hb; have BK893 := zA (hbox); have GW893 := gq HB hg; have GE893 := gq HB hg; replace HB := xH HB hb; have := geI GE893; clear hb hbox hg; have hcz6_0 := bc BK893 0; have hcz6_1 := bc BK893 1; have hcz6_2 := bc BK893 2; have hfz6_0 := bf BK893 0; have hfz6_1 := bf BK893 1; have hfz6_2 := bf BK893 2) | ((with_reducible refine gate_callee (f := 40) rfl ?_); refine gL (some 8) Try.func40 #[.slice A0_1 l0_1.length c0_1, .int .i64 a1] ?_; (with_reducible refine (laws_heldInt64S.calls k _ _ l0_1 a1 t894 _ ?side1 ?side2 A3.out).mono ?_); (case side1 => exact uC ((Kd.C_below HR0_1.out HB.out))); (case side2 => exact HC0_1.out); rintro e w' ⟨rfl, ⟨nd, rfl⟩⟩; refine ⟨_, rfl, ?_⟩))
 go_ret
 exact ⟨by first | rfl | (simp [errW_none, errW_some] <;> rfl) | (simp [*, errW_none, errW_some] <;> rfl), uH HB.out⟩
/-! ### laws_markJacobi: function 20 -/
def laws_markJacobi.f (k : Nat) (a0_0 : Int) (l0_1 : List Int) (l0_2 : List Int) (a1 : Int) : Option (Int × List Int × List Int) := (laws_markInt64S.f k l0_1 a1).bind fun bt889 => ((laws_markInt64S.f k l0_2 bt889.1).bind fun bt891 => (some (bt891.1, bt889.2, bt891.2)))
set_option maxHeartbeats 8000000 in
set_option maxRecDepth 100000 in
theorem laws_markJacobi.calls (k : Nat) (a0_0 : Int) (P0_1_ : Nat → Prop) (u9000_ : Value) (l0_1 : List Int) (P0_2_ : Nat → Prop) (u9001_ : Value) (l0_2 : List Int) (a1 : Int) (r1 : Int) (r2 : List Int) (r3 : List Int) (w0 w : World) (hB : Below w0.heap.size w0 w) (ho0_1 : Kd.R (Kd.int .i64) 2 w w0.heap.size P0_1_ u9000_ l0_1) (hp0_1_0_2 : ∀ k_, P0_1_ k_ → ¬ P0_2_ k_) (ho0_2 : Kd.R (Kd.int .i64) 2 w w0.heap.size P0_2_ u9001_ l0_2) (hp0_2_0_1 : ∀ k_, P0_2_ k_ → ¬ P0_1_ k_) (h : laws_markJacobi.f k a0_0 l0_1 l0_2 a1 = some (r1, r2, r3)) :
  Calls Try.prog 20 #[.agg #[.int .i64 a0_0, u9000_, u9001_], .int .i64 a1] w fun e w' => e = .returned (.int .i64 r1) ∧ Kd.R (Kd.int .i64) 2 w' w0.heap.size (fun k_ => ((P0_1_ k_ ∨ P0_2_ k_) ∨ w.heap.size ≤ k_)) u9000_ r2 ∧ Kd.R (Kd.int .i64) 2 w' w0.heap.size (fun k_ => ((P0_1_ k_ ∨ P0_2_ k_) ∨ w.heap.size ≤ k_)) u9001_ r3 ∧ Below w0.heap.size w0 w' ∧ Kept w w' (fun k_ => P0_1_ k_ ∨ P0_2_ k_) := by
 have hu26 := Try.underlying26
 have HO0_1 := zA (show Kd.R (Kd.int .i64) 2 w w0.heap.size (fun k_ => ((P0_1_ k_ ∨ P0_2_ k_) ∨ w.heap.size ≤ k_) ∧ some k_ ≠ (u9001_ : Value).ownBlock) u9000_ l0_1 from Kd.R_mono ho0_1 (fun k_ hk => ⟨(.inl (.inl hk)), fun e_ => hp0_1_0_2 k_ hk (ho0_2.1 k_ e_.symm)⟩))
 have HO0_2 := zA (show Kd.R (Kd.int .i64) 2 w w0.heap.size (fun k_ => ((P0_1_ k_ ∨ P0_2_ k_) ∨ w.heap.size ≤ k_) ∧ some k_ ≠ (u9000_ : Value).ownBlock) u9001_ l0_2 from Kd.R_mono ho0_2 (fun k_ hk => ⟨(.inl (.inr hk)), fun e_ => hp0_2_0_1 k_ hk (ho0_1.1 k_ e_.symm)⟩))
 have HK := zA (Kept.refl w (fun k_ => P0_1_ k_ ∨ P0_2_ k_))
 have HW0 := zA hB.size
 have HB := zA hB
 clear hB
 have H : ((laws_markInt64S.f k l0_1 a1).bind fun bt889 => ((laws_markInt64S.f k l0_2 bt889.1).bind fun bt891 => (some (bt891.1, bt889.2, bt891.2)))) = some (r1, r2, r3) := h
 clear h
 replace H := Option.bind_eq_some_iff.mp H
 obtain ⟨⟨t889, t890⟩, A30, H⟩ := H
 replace H : ((laws_markInt64S.f k l0_2 t889).bind fun bt891 => (some (bt891.1, t890, bt891.2))) = some (r1, r2, r3) := H
 have A3 := zA A30
 clear A30
 replace H := Option.bind_eq_some_iff.mp H
 obtain ⟨⟨t891, t892⟩, A40, H⟩ := H
 replace H : (some (t891, t890, t892)) = some (r1, r2, r3) := H
 have A4 := zA A40
 clear A40
 simp only [Option.some.injEq, Prod.mk.injEq] at H
 obtain ⟨rfl, rfl, rfl⟩ := H
 obtain ⟨Ao5, co5, eo5⟩ := Kd.R_slice HO0_1.out
 subst eo5
 obtain ⟨Ao6, co6, eo6⟩ := Kd.R_slice HO0_2.out
 subst eo6
 go_enter Try.func20, Try.ntmps20
 go_wp2_with (first | ((with_reducible refine gate_dst (N := 2) rfl ?_); refine bx 2 #[.int .i64 a0_0, .slice Ao5 l0_1.length co5, .slice Ao6 l0_2.length co6] 26 ?_; intro gb888 hg w7 hbox hb; replace HO0_1 := xR HO0_1 hb; replace HO0_2 := xR HO0_2 hb; have BK888 := zA (hbox); have GW888 := zA ((by rw [hg]; exact (by first | exact HK.out.1 | exact (show Kept w _ (fun k_ => P0_1_ k_ ∨ P0_2_ k_) from by repeat (first | (with_reducible first | exact HK.out | apply Kept.alloc | apply Kept.drewN | apply Kept.drew) | exact HK.out)).1) : w.heap.size ≤ gb888)); replace HK := zA (Kept.below (S := (fun k_ => P0_1_ k_ ∨ P0_2_ k_)) (by repeat (first | (with_reducible first | exact HK.out | apply Kept.alloc | apply Kept.drewN | apply Kept.drew) | exact HK.out)) hb); have GE888 := zA ((by rw [hg]; exact (below_size (uH HB.out)) : w0.heap.size ≤ gb888)); replace HB := xH HB hb; have := geI GE888; clear hb hbox hg; have hcz8_0 := bc BK888 0; have hcz8_1 := bc BK888 1; have hcz8_2 := bc BK888 2; have hfz8_0 := bf BK888 0; have hfz8_1 := bf BK888 1; have hfz8_2 := bf BK888 2) | ((with_reducible refine gate_callee (f := 31) rfl ?_); refine gL (some 8) Try.func31 #[.slice Ao5 l0_1.length co5, .int .i64 a1] ?_; (with_reducible refine (laws_markInt64S.calls k (fun k_ => some k_ = (.slice Ao5 l0_1.length co5 : Value).ownBlock) (.slice Ao5 l0_1.length co5) l0_1 a1 t889 t890 w0 _ ?side1 ?side2 A3.out).mono ?_); (case side1 => repeat (first | (with_reducible first | exact HB.out | apply below_alloc | apply pw_below_drewN | apply below_drew1 | refine below_set ?_ GE888.out) | exact HB.out)); (case side2 => exact Kd.R_tight rfl HO0_1.out); rintro e w9 ⟨rfl, hy0, hb, hkp⟩; refine ⟨_, rfl, ?_⟩; replace HO0_2 := zA (Kd.R_mono (ok' := fun k_ => ((P0_1_ k_ ∨ P0_2_ k_) ∨ w.heap.size ≤ k_) ∧ ax k_ (.slice Ao5 l0_1.length co5)) (Kd.R_keptB (HO0_2.out) hkp (fun k_ hk_ hs_ => (hk_.2) hs_)) (fun k_ hk_ => ⟨hk_.1.1, hk_.1.2⟩)); replace BK888 := zA (blk_kept (uB BK888.out) hkp (fun hs_ => (fun e_ => (Kd.R_ne HO0_1.out BK888.out (by decide)) e_) hs_)); replace HK := zA (Kept.then_ (S := (fun k_ => P0_1_ k_ ∨ P0_2_ k_)) (by repeat (first | (with_reducible first | exact HK.out | apply Kept.alloc | apply Kept.drewN | apply Kept.drew | refine Kept.setCell ?_ (.inr GW888.out) _) | exact HK.out)) hkp (fun k_ hs_ => (fun e_ => (HO0_1.out.1 k_ e_.symm).1) hs_)); replace HO0_1 := zA (Kd.R_reok rfl hy0 (fun k_ e_ => HO0_1.out.1 k_ e_)); replace HB := zA (hb); (try clear hb); (try clear hkp); (try clear hy0); have hcz10_0 := bc BK888 0; have hcz10_1 := bc BK888 1; have hcz10_2 := bc BK888 2; have hfz10_0 := bf BK888 0; have hfz10_1 := bf BK888 1; have hfz10_2 := bf BK888 2) | ((with_reducible refine gate_callee (f := 31) rfl ?_); refine gL (some 12) Try.func31 #[.slice Ao6 l0_2.length co6, .int .i64 t889] ?_; (with_reducible refine (laws_markInt64S.calls k (fun k_ => some k_ = (.slice Ao6 l0_2.length co6 : Value).ownBlock) (.slice Ao6 l0_2.length co6) l0_2 t889 t891 t892 w0 _ ?side1 ?side2 A4.out).mono ?_); (case side1 => repeat (first | (with_reducible first | exact HB.out | apply below_alloc | apply pw_below_drewN | apply below_drew1 | refine below_set ?_ GE888.out) | exact HB.out)); (case side2 => exact Kd.R_tight rfl HO0_2.out); rintro e w11 ⟨rfl, hy0, hb, hkp⟩; refine ⟨_, rfl, ?_⟩; replace HO0_1 := zA (Kd.R_mono (ok' := fun k_ => ((P0_1_ k_ ∨ P0_2_ k_) ∨ w.heap.size ≤ k_) ∧ ax k_ (.slice Ao6 l0_2.length co6)) (Kd.R_keptB (HO0_1.out) hkp (fun k_ hk_ hs_ => (hk_.2) hs_)) (fun k_ hk_ => ⟨hk_.1.1, hk_.1.2⟩)); replace BK888 := zA (blk_kept (uB BK888.out) hkp (fun hs_ => (fun e_ => (Kd.R_ne HO0_2.out BK888.out (by decide)) e_) hs_)); replace HK := zA (Kept.then_ (S := (fun k_ => P0_1_ k_ ∨ P0_2_ k_)) (by repeat (first | (with_reducible first | exact HK.out | apply Kept.alloc | apply Kept.drewN | apply Kept.drew | refine Kept.setCell ?_ (.inr GW888.out) _) | exact HK.out)) hkp (fun k_ hs_ => (fun e_ => (HO0_2.out.1 k_ e_.symm).1) hs_)); replace HO0_2 := zA (Kd.R_reok rfl hy0 (fun k_ e_ => HO0_2.out.1 k_ e_)); replace HB := zA (hb); (try clear hb); (try clear hkp); (try clear hy0)))
 go_ret
 exact ⟨by first | rfl | (simp [errW_none, errW_some] <;> rfl) | (simp [*, errW_none, errW_some] <;> rfl), uR (Kd.R_mono HO0_1.out (fun _ hk => hk.1)), uR (Kd.R_mono HO0_2.out (fun _ hk => hk.1)), uH HB.out, by repeat (first | (with_reducible first | exact HK.out | apply Kept.alloc | apply Kept.drewN | apply Kept.drew | refine Kept.setCell ?_ (.inr GW888.out) _) | exact HK.out)⟩
/-! ### laws_szJacobi: function 15 -/
def laws_szJacobi.f (a0_0 : Int) (l0_1 : List Int) (l0_2 : List Int) (a1 : Int) : Option (Int) := (laws_szInt64S.f l0_1 a1).bind fun t1059 => (if t1059 < 0 then (some (-1)) else ((laws_szInt64S.f l0_2 t1059).bind fun t1060 => (if t1060 < 0 then (some (-1)) else (some t1060))))
set_option maxHeartbeats 8000000 in
set_option maxRecDepth 100000 in
theorem laws_szJacobi.calls (a0_0 : Int) (A0_1 : Option Addr) (c0_1 : Nat) (l0_1 : List Int) (A0_2 : Option Addr) (c0_2 : Nat) (l0_2 : List Int) (a1 : Int) (r : Int) (w : World) (hr0_1 : Kd.C (Kd.int .i64) w A0_1 l0_1.length l0_1) (hc0_1 : l0_1.length ≤ c0_1) (hr0_2 : Kd.C (Kd.int .i64) w A0_2 l0_2.length l0_2) (hc0_2 : l0_2.length ≤ c0_2) (h : laws_szJacobi.f a0_0 l0_1 l0_2 a1 = some r) :
  Calls Try.prog 15 #[.agg #[.int .i64 a0_0, .slice A0_1 l0_1.length c0_1, .slice A0_2 l0_2.length c0_2], .int .i64 a1] w fun e w' => e = .returned (.int .i64 r) ∧ Below w.heap.size w w' := by
 have hu24 := Try.underlying24
 have HR0_1 := zA hr0_1
 have HC0_1 := zA hc0_1
 clear hr0_1 hc0_1
 have HR0_2 := zA hr0_2
 have HC0_2 := zA hc0_2
 clear hr0_2 hc0_2
 have HB := zA (Below.refl w.heap.size w)
 have H : ((laws_szInt64S.f l0_1 a1).bind fun t1059 => (if t1059 < 0 then (some (-1)) else ((laws_szInt64S.f l0_2 t1059).bind fun t1060 => (if t1060 < 0 then (some (-1)) else (some t1060))))) = some r := h
 clear h
 replace H := Option.bind_eq_some_iff.mp H
 obtain ⟨t1059, A30, H⟩ := H
 replace H : (if t1059 < 0 then (some (-1)) else ((laws_szInt64S.f l0_2 t1059).bind fun t1060 => (if t1060 < 0 then (some (-1)) else (some t1060)))) = some r := H
 have A3 := zA A30
 clear A30
 by_cases c4 : t1059 < 0
 rotate_left
 ·rw [if_neg c4] at H
  have c4b0 : decide (t1059 < 0) = false := decide_eq_false c4
  clear c4
  replace H := Option.bind_eq_some_iff.mp H
  obtain ⟨t1060, A70, H⟩ := H
  replace H : (if t1060 < 0 then (some (-1)) else (some t1060)) = some r := H
  have A7 := zA A70
  clear A70
  by_cases c8 : t1060 < 0
  rotate_left
  ·rw [if_neg c8] at H
   have c8b0 : decide (t1060 < 0) = false := decide_eq_false c8
   clear c8
   obtain rfl := Option.some.inj H
   go_enter Try.func15, Try.ntmps15
   go_wp2_with (first | ((with_reducible refine gate_dst (N := 2) rfl ?_); refine bx 2 #[.int .i64 a0_0, .slice A0_1 l0_1.length c0_1, .slice A0_2 l0_2.length c0_2] 24 ?_; intro gb1058 hg w11 hbox hb; have BK1058 := zA (hbox); have GW1058 := gq HB hg; have GE1058 := gq HB hg; replace HB := xH HB hb; have := geI GE1058; clear hb hbox hg; have hcz12_0 := bc BK1058 0; have hcz12_1 := bc BK1058 1; have hcz12_2 := bc BK1058 2; have hfz12_0 := bf BK1058 0; have hfz12_1 := bf BK1058 1; have hfz12_2 := bf BK1058 2) | ((with_reducible refine gate_callee (f := 55) rfl ?_); refine gL (some 8) Try.func55 #[.slice A0_1 l0_1.length c0_1, .int .i64 a1] ?_; (with_reducible refine (laws_szInt64S.calls _ _ l0_1 a1 t1059 _ ?side1 ?side2 A3.out).mono ?_); (case side1 => exact uC ((Kd.C_below HR0_1.out HB.out))); (case side2 => exact HC0_1.out); rintro e w' ⟨rfl, ⟨nd, rfl⟩⟩; refine ⟨_, rfl, ?_⟩) | ((with_reducible refine gate_callee (f := 55) rfl ?_); refine gL (some 14) Try.func55 #[.slice A0_2 l0_2.length c0_2, .int .i64 t1059] ?_; (with_reducible refine (laws_szInt64S.calls _ _ l0_2 t1059 t1060 _ ?side1 ?side2 A7.out).mono ?_); (case side1 => repeat (first | exact (Kd.C_below HR0_2.out (uH HB.out)) | (with_reducible refine Kd.C_alloc ?_ _) | (with_reducible refine Kd.C_drewN ?_ _) | (with_reducible refine Kd.C_drew ?_))); (case side2 => exact HC0_2.out); rintro e w' ⟨rfl, ⟨nd, rfl⟩⟩; refine ⟨_, rfl, ?_⟩))
   go_ret
   exact ⟨by first | rfl | (simp [errW_none, errW_some] <;> rfl) | (simp [*, errW_none, errW_some] <;> rfl), uH HB.out⟩

  rw [if_pos c8] at H
  have c8b0 : decide (t1060 < 0) = true := decide_eq_true c8
  clear c8
  obtain rfl := Option.some.inj H
  go_enter Try.func15, Try.ntmps15
  go_wp2_with (first | ((with_reducible refine gate_dst (N := 2) rfl ?_); refine bx 2 #[.int .i64 a0_0, .slice A0_1 l0_1.length c0_1, .slice A0_2 l0_2.length c0_2] 24 ?_; intro gb1058 hg w9 hbox hb; have BK1058 := zA (hbox); have GW1058 := gq HB hg; have GE1058 := gq HB hg; replace HB := xH HB hb; have := geI GE1058; clear hb hbox hg; have hcz10_0 := bc BK1058 0; have hcz10_1 := bc BK1058 1; have hcz10_2 := bc BK1058 2; have hfz10_0 := bf BK1058 0; have hfz10_1 := bf BK1058 1; have hfz10_2 := bf BK1058 2) | ((with_reducible refine gate_callee (f := 55) rfl ?_); refine gL (some 8) Try.func55 #[.slice A0_1 l0_1.length c0_1, .int .i64 a1] ?_; (with_reducible refine (laws_szInt64S.calls _ _ l0_1 a1 t1059 _ ?side1 ?side2 A3.out).mono ?_); (case side1 => exact uC ((Kd.C_below HR0_1.out HB.out))); (case side2 => exact HC0_1.out); rintro e w' ⟨rfl, ⟨nd, rfl⟩⟩; refine ⟨_, rfl, ?_⟩) | ((with_reducible refine gate_callee (f := 55) rfl ?_); refine gL (some 14) Try.func55 #[.slice A0_2 l0_2.length c0_2, .int .i64 t1059] ?_; (with_reducible refine (laws_szInt64S.calls _ _ l0_2 t1059 t1060 _ ?side1 ?side2 A7.out).mono ?_); (case side1 => repeat (first | exact (Kd.C_below HR0_2.out (uH HB.out)) | (with_reducible refine Kd.C_alloc ?_ _) | (with_reducible refine Kd.C_drewN ?_ _) | (with_reducible refine Kd.C_drew ?_))); (case side2 => exact HC0_2.out); rintro e w' ⟨rfl, ⟨nd, rfl⟩⟩; refine ⟨_, rfl, ?_⟩))
  go_ret
  exact ⟨by first | rfl | (simp [errW_none, errW_some] <;> rfl) | (simp [*, errW_none, errW_some] <;> rfl), uH HB.out⟩
 rw [if_pos c4] at H
 have c4b0 : decide (t1059 < 0) = true := decide_eq_true c4
 clear c4
 obtain rfl := Option.some.inj H
 go_enter Try.func15, Try.ntmps15
 go_wp2_with (first | ((with_reducible refine gate_dst (N := 2) rfl ?_); refine bx 2 #[.int .i64 a0_0, .slice A0_1 l0_1.length c0_1, .slice A0_2 l0_2.length c0_2] 24 ?_; intro gb1058 hg w5 hbox hb; have BK1058 := zA (hbox); have GW1058 := gq HB hg; have GE1058 := gq HB hg; replace HB := xH HB hb; have := geI GE1058; clear hb hbox hg; have hcz6_0 := bc BK1058 0; have hcz6_1 := bc BK1058 1; have hcz6_2 := bc BK1058 2; have hfz6_0 := bf BK1058 0; have hfz6_1 := bf BK1058 1; have hfz6_2 := bf BK1058 2) | ((with_reducible refine gate_callee (f := 55) rfl ?_); refine gL (some 8) Try.func55 #[.slice A0_1 l0_1.length c0_1, .int .i64 a1] ?_; (with_reducible refine (laws_szInt64S.calls _ _ l0_1 a1 t1059 _ ?side1 ?side2 A3.out).mono ?_); (case side1 => exact uC ((Kd.C_below HR0_1.out HB.out))); (case side2 => exact HC0_1.out); rintro e w' ⟨rfl, ⟨nd, rfl⟩⟩; refine ⟨_, rfl, ?_⟩))
 go_ret
 exact ⟨by first | rfl | (simp [errW_none, errW_some] <;> rfl) | (simp [*, errW_none, errW_some] <;> rfl), uH HB.out⟩
/-! ### laws_toJacobi: function 17 -/
def laws_toJacobi.f (k : Nat) (a0_0 : Int) (l0_1 : List Int) (l0_2 : List Int) : Option (Int × List Int × List Int) := (laws_toInt64S.f k l0_1).bind fun t1089 => ((laws_toInt64S.f k l0_2).bind fun t1092 => (some (a0_0, t1089, t1092)))
set_option maxHeartbeats 8000000 in
set_option maxRecDepth 100000 in
theorem laws_toJacobi.calls (k : Nat) (a0_0 : Int) (A0_1 : Option Addr) (c0_1 : Nat) (l0_1 : List Int) (A0_2 : Option Addr) (c0_2 : Nat) (l0_2 : List Int) (r1 : Int) (r2 : List Int) (r3 : List Int) (w : World) (hr0_1 : Kd.C (Kd.int .i64) w A0_1 l0_1.length l0_1) (hc0_1 : l0_1.length ≤ c0_1) (hr0_2 : Kd.C (Kd.int .i64) w A0_2 l0_2.length l0_2) (hc0_2 : l0_2.length ≤ c0_2) (h : laws_toJacobi.f k a0_0 l0_1 l0_2 = some (r1, r2, r3)) :
  Calls Try.prog 17 #[.agg #[.int .i64 a0_0, .slice A0_1 l0_1.length c0_1, .slice A0_2 l0_2.length c0_2]] w fun e w' => ∃ v1_ v2_ : Value, e = .returned (.agg #[.int .i64 r1, v1_, v2_]) ∧ Kd.R (Kd.int .i64) 2 w' w.heap.size (fun k_ => some k_ ≠ (v2_ : Value).ownBlock) v1_ r2 ∧ Kd.R (Kd.int .i64) 2 w' w.heap.size (fun k_ => some k_ ≠ (v1_ : Value).ownBlock) v2_ r3 ∧ Below w.heap.size w w' := by
 have hu24 := Try.underlying24
 have hu26 := Try.underlying26
 have HR0_1 := zA hr0_1
 have HC0_1 := zA hc0_1
 clear hr0_1 hc0_1
 have HR0_2 := zA hr0_2
 have HC0_2 := zA hc0_2
 clear hr0_2 hc0_2
 have HB := zA (Below.refl w.heap.size w)
 have H : ((laws_toInt64S.f k l0_1).bind fun t1089 => ((laws_toInt64S.f k l0_2).bind fun t1092 => (some (a0_0, t1089, t1092)))) = some (r1, r2, r3) := h
 clear h
 replace H := Option.bind_eq_some_iff.mp H
 obtain ⟨t1089, A20, H⟩ := H
 replace H : ((laws_toInt64S.f k l0_2).bind fun t1092 => (some (a0_0, t1089, t1092))) = some (r1, r2, r3) := H
 have A2 := zA A20
 clear A20
 replace H := Option.bind_eq_some_iff.mp H
 obtain ⟨t1092, A30, H⟩ := H
 replace H : (some (a0_0, t1089, t1092)) = some (r1, r2, r3) := H
 have A3 := zA A30
 clear A30
 simp only [Option.some.injEq, Prod.mk.injEq] at H
 obtain ⟨rfl, rfl, rfl⟩ := H
 go_enter Try.func17, Try.ntmps17
 go_wp2_with (first | ((with_reducible refine gate_dst (N := 1) rfl ?_); refine bx 1 #[.int .i64 a0_0, .slice A0_1 l0_1.length c0_1, .slice A0_2 l0_2.length c0_2] 24 ?_; intro gb1086 hg w4 hbox hb; have BK1086 := zA (hbox); have GW1086 := gq HB hg; have GE1086 := gq HB hg; replace HB := xH HB hb; have := geI GE1086; clear hb hbox hg) | ((with_reducible refine gate_dst (N := 2) rfl ?_); refine bx 2 #[.int .i64 0, .slice none 0 0, .slice none 0 0] 26 ?_; intro gb1087 hg w5 hbox hb; have BK1087 := zA (hbox); have GW1087 := gq HB hg; have GE1087 := gq HB hg; replace HB := xH HB hb; have NB1086_1087 := zA ((by rw [hg]; exact neL BK1086 : gb1086 ≠ gb1087)); have NB1087_1086 := zA ((by rw [hg]; exact neG BK1086 : gb1087 ≠ gb1086)); replace BK1086 := xB BK1086 hb; have := geI GE1087; clear hb hbox hg) | ((with_reducible refine gate_dst (N := 3) rfl ?_); refine bx 3 #[.int .i64 0, .slice none 0 0, .slice none 0 0] 26 ?_; intro gb1088 hg w6 hbox hb; have BK1088 := zA (hbox); have GW1088 := gq HB hg; have GE1088 := gq HB hg; replace HB := xH HB hb; have NB1086_1088 := zA ((by rw [hg]; exact neL BK1086 : gb1086 ≠ gb1088)); have NB1088_1086 := zA ((by rw [hg]; exact neG BK1086 : gb1088 ≠ gb1086)); replace BK1086 := xB BK1086 hb; have NB1087_1088 := zA ((by rw [hg]; exact neL BK1087 : gb1087 ≠ gb1088)); have NB1088_1087 := zA ((by rw [hg]; exact neG BK1087 : gb1088 ≠ gb1087)); replace BK1087 := xB BK1087 hb; have := geI GE1088; clear hb hbox hg; have hnb7 := NB1086_1087.out; have hnc7 := NB1087_1086.out; have hnb8 := NB1086_1088.out; have hnc8 := NB1088_1086.out; have hcz9_0 := bc BK1086 0; have hcz9_1 := bc BK1086 1; have hcz9_2 := bc BK1086 2; have hfz9_0 := bf BK1086 0; have hfz9_1 := bf BK1086 1; have hfz9_2 := bf BK1086 2; have hnb10 := NB1088_1087.out; have hnc10 := NB1087_1088.out; have hcz11_0 := bc BK1088 0; have hcz11_1 := bc BK1088 1; have hcz11_2 := bc BK1088 2; have hfz11_0 := bf BK1088 0; have hfz11_1 := bf BK1088 1; have hfz11_2 := bf BK1088 2) | ((with_reducible refine gate_callee (f := 25) rfl ?_); refine gL (some 9) Try.func25 #[.slice A0_1 l0_1.length c0_1] ?_; (with_reducible refine (laws_toInt64S.calls k _ _ l0_1 t1089 _ ?side1 ?side2 A2.out).mono ?_); (case side1 => exact Kd.C_below HR0_1.out (uH HB.out)); (case side2 => exact HC0_1.out); rintro e w12 ⟨v1090, rfl, ho0, hb⟩; refine ⟨_, rfl, ?_⟩; have HO1091 := zA (Kd.R_lower ho0 (below_size (uH HB.out))); replace BK1086 := zA (blk_below (g := gb1086) (o := .cells #[.int .i64 a0_0, .slice A0_1 l0_1.length c0_1, .slice A0_2 l0_2.length c0_2] 24 (0, 0)) (by (repeat refine up1 ?_); refine blk_far ?_ NB1086_1088.out _; (repeat refine up1 ?_); exact BK1086.out) hb); replace BK1087 := zA (blk_below (g := gb1087) (o := .cells #[.int .i64 0, .slice none 0 0, .slice none 0 0] 26 (0, 0)) (by (repeat refine up1 ?_); refine blk_far ?_ NB1087_1088.out _; (repeat refine up1 ?_); exact BK1087.out) hb); replace BK1088 := zA (blk_below (g := gb1088) (o := .cells #[.int .i64 a0_0, .slice none 0 0, .slice none 0 0] 26 (0, 0)) (by (repeat refine up1 ?_); refine blk_put (cs := #[.int .i64 0, .slice none 0 0, .slice none 0 0]) ?_ 0 _ rfl; (repeat refine up1 ?_); exact BK1088.out) hb); replace HB := xH HB hb; (try clear hb); (try clear hb2); (try clear hk); (try clear hi); (try clear ho0); obtain ⟨Ao13, co13, eo13⟩ := Kd.R_slice HO1091.out; subst eo13; have hcz14_0 := bc BK1088 0; have hcz14_1 := bc BK1088 1; have hcz14_2 := bc BK1088 2; have hfz14_0 := bf BK1088 0; have hfz14_1 := bf BK1088 1; have hfz14_2 := bf BK1088 2; have hcz15_0 := bc BK1086 0; have hcz15_1 := bc BK1086 1; have hcz15_2 := bc BK1086 2; have hfz15_0 := bf BK1086 0; have hfz15_1 := bf BK1086 1; have hfz15_2 := bf BK1086 2) | ((with_reducible refine gate_callee (f := 25) rfl ?_); refine gL (some 13) Try.func25 #[.slice A0_2 l0_2.length c0_2] ?_; (with_reducible refine (laws_toInt64S.calls k _ _ l0_2 t1092 _ ?side1 ?side2 A3.out).mono ?_); (case side1 => exact Kd.C_below HR0_2.out (uH HB.out)); (case side2 => exact HC0_2.out); rintro e w16 ⟨v1093, rfl, ho0, hb⟩; refine ⟨_, rfl, ?_⟩; have HO1094 := zA (Kd.R_lower (Kd.R_new' ho0 (Kd.R_lt (uR ((Kd.R_mono (Kd.R_far (p := ⟨gb1088, 1, none⟩) (Kd.R_types HO1091.out BK1088.out (by decide)) (fun _ hk => hk.2) (.slice Ao13 t1089.length co13)) (fun _ h_ => h_.1)))))) (below_size (uH HB.out))); replace HO1091 := zA (Kd.R_elder' (uR ((Kd.R_mono (Kd.R_far (p := ⟨gb1088, 1, none⟩) (Kd.R_types HO1091.out BK1088.out (by decide)) (fun _ hk => hk.2) (.slice Ao13 t1089.length co13)) (fun _ h_ => h_.1)))) (Kd.R_base ho0) hb); replace BK1086 := zA (blk_below (g := gb1086) (o := .cells #[.int .i64 a0_0, .slice A0_1 l0_1.length c0_1, .slice A0_2 l0_2.length c0_2] 24 (0, 0)) (by (repeat refine up1 ?_); refine blk_far ?_ NB1086_1088.out _; (repeat refine up1 ?_); exact BK1086.out) hb); replace BK1087 := zA (blk_below (g := gb1087) (o := .cells #[.int .i64 0, .slice none 0 0, .slice none 0 0] 26 (0, 0)) (by (repeat refine up1 ?_); refine blk_far ?_ NB1087_1088.out _; (repeat refine up1 ?_); exact BK1087.out) hb); replace BK1088 := zA (blk_below (g := gb1088) (o := .cells #[.int .i64 a0_0, .slice Ao13 t1089.length co13, .slice none 0 0] 26 (0, 0)) (by (repeat refine up1 ?_); refine blk_put (cs := #[.int .i64 a0_0, .slice none 0 0, .slice none 0 0]) ?_ 1 _ rfl; (repeat refine up1 ?_); exact BK1088.out) hb); replace HB := xH HB hb; (try clear hb); (try clear hb2); (try clear hk); (try clear hi); (try clear ho0); obtain ⟨Ao17, co17, eo17⟩ := Kd.R_slice HO1094.out; subst eo17; have hcz18_0 := bc BK1088 0; have hcz18_1 := bc BK1088 1; have hcz18_2 := bc BK1088 2; have hfz18_0 := bf BK1088 0; have hfz18_1 := bf BK1088 1; have hfz18_2 := bf BK1088 2; have hcz19_0 := bc BK1087 0; have hcz19_1 := bc BK1087 1; have hcz19_2 := bc BK1087 2; have hfz19_0 := bf BK1087 0; have hfz19_1 := bf BK1087 1; have hfz19_2 := bf BK1087 2))
 refine bodyPost_ret (results_cell_row rfl _ _ gb1087 26 #[.int .i64 a0_0, .slice Ao13 t1089.length co13, .slice Ao17 t1092.length co17] (0, 0) _ rfl (by (repeat refine up1 ?_); refine blk_put (cs := #[.int .i64 a0_0, .slice Ao13 t1089.length co13, .slice none 0 0]) ?_ 2 _ rfl; (repeat refine up1 ?_); refine blk_put (cs := #[.int .i64 a0_0, .slice none 0 0, .slice none 0 0]) ?_ 1 _ rfl; (repeat refine up1 ?_); refine blk_put (cs := #[.int .i64 0, .slice none 0 0, .slice none 0 0]) ?_ 0 _ rfl; (repeat refine up1 ?_); refine blk_far ?_ NB1087_1088.out _; (repeat refine up1 ?_); exact BK1087.out) Try.underlying26 rfl (by kernel_rfl)) rfl ?_
 exact ⟨_, _, by first | rfl | (simp [errW_none, errW_some] <;> rfl) | (simp [*, errW_none, errW_some] <;> rfl), uR (Kd.R_mono (Kd.R_far (p := ⟨gb1087, 2, none⟩) (Kd.R_far (p := ⟨gb1087, 1, none⟩) (Kd.R_far (p := ⟨gb1087, 0, none⟩) (Kd.R_far (p := ⟨gb1088, 2, none⟩) (Kd.R_types (Kd.R_types HO1091.out BK1088.out (by decide)) BK1087.out (by decide)) (fun _ hk => hk.1.2) (.slice Ao17 t1092.length co17)) (fun _ hk => hk.2) (.int .i64 a0_0)) (fun _ hk => hk.2) (.slice Ao13 t1089.length co13)) (fun _ hk => hk.2) (.slice Ao17 t1092.length co17)) (fun _ hk => hk.1.1.2)), uR (Kd.R_mono (Kd.R_far (p := ⟨gb1087, 2, none⟩) (Kd.R_far (p := ⟨gb1087, 1, none⟩) (Kd.R_far (p := ⟨gb1087, 0, none⟩) (Kd.R_far (p := ⟨gb1088, 2, none⟩) (Kd.R_types (Kd.R_types HO1094.out BK1088.out (by decide)) BK1087.out (by decide)) (fun _ hk => hk.1.2) (.slice Ao17 t1092.length co17)) (fun _ hk => hk.2) (.int .i64 a0_0)) (fun _ hk => hk.2) (.slice Ao13 t1089.length co13)) (fun _ hk => hk.2) (.slice Ao17 t1092.length co17)) (fun _ hk => hk.1.1.2)), uH HB.out⟩
/- The laws' helpers at Jacobi: copies, comparisons, marks. -/
theorem toJacobi_ev (p : Int) (l0 l1 : List Int) (h0 : Sm l0.length) (h1 : Sm l1.length) : Ev (fun k => laws_toJacobi.f k p l0 l1) (p, l0, l1) := by
  unfold laws_toJacobi.f
  exact Ev.bind (toInt64S_ev _ h0) (Ev.bind (toInt64S_ev _ h1) (Ev.now _))
theorem eqJacobi_ev (p : Int) (l0 l1 : List Int) (h0 : Sm l0.length) (h1 : Sm l1.length) : Ev (fun k => laws_eqJacobi.f k p l0 l1 p l0 l1) true := by
  unfold laws_eqJacobi.f
  exact Ev.pos rfl (Ev.bind (eqInt64S_ev _ h0) (Ev.pos rfl (Ev.bind (eqInt64S_ev _ h1) (Ev.pos rfl (Ev.now _)))))
theorem markJacobi_ev (p : Int) (l0 l1 : List Int) (h0 : Sm l0.length) (h1 : Sm l1.length) (m : Nat) (hm : m ≤ 4194304) : Ev (fun k => laws_markJacobi.f k p l0 l1 (m : Int)) (((m + l0.length + l1.length : Nat) : Int), marks (m) l0.length, marks (m + l0.length) l1.length) := by
  unfold laws_markJacobi.f
  unfold Sm at h0 h1
  exact Ev.bind (markInt64S_ev _ _ h0 (by omega)) (Ev.bind (markInt64S_ev _ _ h1 (by omega)) (Ev.now _))
theorem heldJacobi_ev (p : Int) (n0 n1 : Nat) (h0 : Sm n0) (h1 : Sm n1) (m : Nat) (hm : m ≤ 4194304) : Ev (fun k => laws_heldJacobi.f k p (marks (m) n0) (marks (m + n0) n1) (m : Int)) ((m + n0 + n1 : Nat) : Int) := by
  unfold laws_heldJacobi.f
  unfold Sm at h0 h1
  exact Ev.bind (heldInt64S_ev _ _ h0 (by omega)) (Ev.neg (by omega) (Ev.bind (heldInt64S_ev _ _ h1 (by omega)) (Ev.neg (by omega) (Ev.now _))))
theorem szJacobi_yes (p : Int) (l0 l1 : List Int) (a : Nat) (ha : a ≤ 1048576) (h : l0.length + l1.length ≤ a) : laws_szJacobi.f p l0 l1 (a : Int) = some ((a - (l0.length + l1.length) : Nat) : Int) := by
  unfold laws_szJacobi.f
  rw [szInt64S_yes l0 (a) (by omega) (by omega), Option.bind_some, if_neg (by omega)]
  rw [szInt64S_yes l1 (a - l0.length) (by omega) (by omega), Option.bind_some, if_neg (by omega)]
  congr 2
  omega
theorem szJacobi_no (p : Int) (l0 l1 : List Int) (g0 : l0.length ≤ 9223372036854775807) (g1 : l1.length ≤ 9223372036854775807) (a : Nat) (ha : a ≤ 1048576) (h : a < l0.length + l1.length) : laws_szJacobi.f p l0 l1 (a : Int) = some (-1) := by
  unfold laws_szJacobi.f
  by_cases e0 : a < l0.length
  · rw [szInt64S_no l0 (a) g0 (by omega) e0, Option.bind_some, if_pos (by omega)]
  · rw [szInt64S_yes l0 (a) (by omega) (by omega), Option.bind_some, if_neg (by omega)]
    rw [szInt64S_no l1 (a - l0.length) g1 (by omega) (by omega), Option.bind_some, if_pos (by omega)]
end Go.Proofs.Ytfbnkebgdmfcfaa.Pr
