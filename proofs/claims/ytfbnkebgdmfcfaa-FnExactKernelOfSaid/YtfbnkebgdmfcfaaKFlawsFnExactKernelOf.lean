/- Printed by a program of this session out of the translation: what these functions of the program compute, under the conditions that each theorem names. -/
import Derived.Test.YtfbnkebgdmfcfaaKC01
import Derived.Test.YtfbnkebgdmfcfaaKC03
import Derived.Test.YtfbnkebgdmfcfaaKC02
import Derived.Test.YtfbnkebgdmfcfaaKKernelOf1
namespace Go.Proofs.Ytfbnkebgdmfcfaa.Pr
open Go.RowKit Go.Proofs.YtfbnkebgdmfcfaaW.PrintWords Go.Proofs.YtfbnkebgdmfcfaaW.PrintLast Go.Proofs.YtfbnkebgdmfcfaaW.PrintMore
attribute [local go_sem] max2_int min2_int max_two min_two max_three min_three max_four min_four   -- for this text's walks alone
set_option linter.unusedVariables false
set_option linter.unusedSimpArgs false

/-! ### laws_FnExactKernelOf: function 13 -/
mutual
def laws_FnExactKernelOf.j0 : Nat → Int → Int → List Int → Int → List Int → Int → Bool → Int → List Int → Int → List Int → Option (Bool)
 | 0, _, _, _, _, _, _, _, _, _, _, _ => none
 | k + 1, x1, x2, x8, x9, x11, x12, x48, x1029000, x1029001, x1043000, x1043001 => if x48 = true then (some false) else ((laws_toMoments.f k x1029000 x1029001).bind fun bt1048 => ((laws_eqMoments.f k x1043000 x1043001 bt1048.1 bt1048.2).bind fun t1052 => (if t1052 = true then ((laws_markMoments.f k x1043000 x1043001 1).bind fun bt1053 => (if bt1053.1 < 0 then (laws_FnExactKernelOf.j1 k x1 x2 x8 x9 x11 true x1029000 x1029001) else ((laws_eqInt64S.f k x11 x8).bind fun t1055 => (if t1055 = true then (laws_FnExactKernelOf.j1 k x1 x2 x8 x9 x11 (x12 != x9) x1029000 x1029001) else (laws_FnExactKernelOf.j1 k x1 x2 x8 x9 x11 true x1029000 x1029001))))) else (some false))))
def laws_FnExactKernelOf.j1 : Nat → Int → Int → List Int → Int → List Int → Bool → Int → List Int → Option (Bool)
 | 0, _, _, _, _, _, _, _, _ => none
 | k + 1, x1, x2, x8, x9, x11, x69, x1029000, x1029001 => if x69 = true then (some false) else ((laws_markInt64S.f k x11 1).bind fun bt1056 => ((laws_heldInt64S.f k bt1056.2 1).bind fun t1058 => (if t1058 < 0 then (some false) else (if t1058 = bt1056.1 then ((laws_toMoments.f k x1029000 x1029001).bind fun bt1059 => ((impl_KernelOf.f k bt1059.1 bt1059.2 x1 x2).bind fun bt1063 => ((laws_eqInt64S.f k bt1063.1 x8).bind fun t1067 => (if t1067 = true then (laws_FnExactKernelOf.j2 k bt1056.2 bt1056.1 (bt1063.2 != x9)) else (laws_FnExactKernelOf.j2 k bt1056.2 bt1056.1 true))))) else (some false)))))
def laws_FnExactKernelOf.j2 : Nat → List Int → Int → Bool → Option (Bool)
 | 0, _, _, _ => none
 | k + 1, x11, x14, x97 => if x97 = true then (some false) else ((laws_heldInt64S.f k x11 1).bind fun t1068 => (if t1068 < 0 then (some false) else (if t1068 = x14 then (some true) else (some false))))
end
def laws_FnExactKernelOf.f (k : Nat) (a0_0 : Int) (l0_1 : List Int) (a1 : Int) (a2 : Int) : Option (Bool) := (laws_szMoments.f a0_0 l0_1 1048576).bind fun t1029 => (if t1029 < 0 then (some true) else ((laws_toMoments.f k a0_0 l0_1).bind fun bt1030 => ((spec_KernelOf.f k bt1030.1 bt1030.2 a1 a2).bind fun bt1034 => ((laws_toMoments.f k a0_0 l0_1).bind fun bt1038 => ((impl_KernelOf.f k bt1038.1 bt1038.2 a1 a2).bind fun bt1043 => ((laws_eqInt64S.f k bt1043.1 bt1034.1).bind fun t1047 => (if t1047 = true then (laws_FnExactKernelOf.j0 k a1 a2 bt1034.1 bt1034.2 bt1043.1 bt1043.2 (bt1043.2 != bt1034.2) a0_0 l0_1 bt1038.1 bt1038.2) else (laws_FnExactKernelOf.j0 k a1 a2 bt1034.1 bt1034.2 bt1043.1 bt1043.2 true a0_0 l0_1 bt1038.1 bt1038.2))))))))
set_option maxHeartbeats 8000000 in
set_option maxRecDepth 100000 in
theorem laws_FnExactKernelOf.calls (k : Nat) (a0_0 : Int) (A0_1 : Option Addr) (c0_1 : Nat) (l0_1 : List Int) (a1 : Int) (a2 : Int) (r : Bool) (hr_ : r = true) (w : World) (hr0_1 : Kd.C (Kd.int .i64) w A0_1 l0_1.length l0_1) (hc0_1 : l0_1.length ≤ c0_1) (h : laws_FnExactKernelOf.f k a0_0 l0_1 a1 a2 = some r) :
  Calls Try.prog 13 #[.agg #[.int .i64 a0_0, .slice A0_1 l0_1.length c0_1], .int .i64 a1, .int .i64 a2] w fun e w' => e = .returned (.bool r) ∧ Below w.heap.size w w' := by
 have hu34 := Try.underlying34
 have hu40 := Try.underlying40
 have HRT := zA hr_
 clear hr_
 have HR0_1 := zA hr0_1
 have HC0_1 := zA hc0_1
 clear hr0_1 hc0_1
 have HB := zA (Below.refl w.heap.size w)
 have H : ((laws_szMoments.f a0_0 l0_1 1048576).bind fun t1029 => (if t1029 < 0 then (some true) else ((laws_toMoments.f k a0_0 l0_1).bind fun bt1030 => ((spec_KernelOf.f k bt1030.1 bt1030.2 a1 a2).bind fun bt1034 => ((laws_toMoments.f k a0_0 l0_1).bind fun bt1038 => ((impl_KernelOf.f k bt1038.1 bt1038.2 a1 a2).bind fun bt1043 => ((laws_eqInt64S.f k bt1043.1 bt1034.1).bind fun t1047 => (if t1047 = true then (laws_FnExactKernelOf.j0 k a1 a2 bt1034.1 bt1034.2 bt1043.1 bt1043.2 (bt1043.2 != bt1034.2) a0_0 l0_1 bt1038.1 bt1038.2) else (laws_FnExactKernelOf.j0 k a1 a2 bt1034.1 bt1034.2 bt1043.1 bt1043.2 true a0_0 l0_1 bt1038.1 bt1038.2))))))))) = some r := h
 clear h
 replace H := Option.bind_eq_some_iff.mp H
 obtain ⟨t1029, A40, H⟩ := H
 replace H : (if t1029 < 0 then (some true) else ((laws_toMoments.f k a0_0 l0_1).bind fun bt1030 => ((spec_KernelOf.f k bt1030.1 bt1030.2 a1 a2).bind fun bt1034 => ((laws_toMoments.f k a0_0 l0_1).bind fun bt1038 => ((impl_KernelOf.f k bt1038.1 bt1038.2 a1 a2).bind fun bt1043 => ((laws_eqInt64S.f k bt1043.1 bt1034.1).bind fun t1047 => (if t1047 = true then (laws_FnExactKernelOf.j0 k a1 a2 bt1034.1 bt1034.2 bt1043.1 bt1043.2 (bt1043.2 != bt1034.2) a0_0 l0_1 bt1038.1 bt1038.2) else (laws_FnExactKernelOf.j0 k a1 a2 bt1034.1 bt1034.2 bt1043.1 bt1043.2 true a0_0 l0_1 bt1038.1 bt1038.2)))))))) = some r := H
 have A4 := zA A40
 clear A40
 by_cases c5 : t1029 < 0
 rotate_left
 ·rw [if_neg c5] at H
  have c5b0 : decide (t1029 < 0) = false := decide_eq_false c5
  clear c5
  replace H := Option.bind_eq_some_iff.mp H
  obtain ⟨⟨t1030, t1031⟩, A90, H⟩ := H
  replace H : ((spec_KernelOf.f k t1030 t1031 a1 a2).bind fun bt1034 => ((laws_toMoments.f k a0_0 l0_1).bind fun bt1038 => ((impl_KernelOf.f k bt1038.1 bt1038.2 a1 a2).bind fun bt1043 => ((laws_eqInt64S.f k bt1043.1 bt1034.1).bind fun t1047 => (if t1047 = true then (laws_FnExactKernelOf.j0 k a1 a2 bt1034.1 bt1034.2 bt1043.1 bt1043.2 (bt1043.2 != bt1034.2) a0_0 l0_1 bt1038.1 bt1038.2) else (laws_FnExactKernelOf.j0 k a1 a2 bt1034.1 bt1034.2 bt1043.1 bt1043.2 true a0_0 l0_1 bt1038.1 bt1038.2)))))) = some r := H
  have A9 := zA A90
  clear A90
  replace H := Option.bind_eq_some_iff.mp H
  obtain ⟨⟨t1034, t1037⟩, A100, H⟩ := H
  replace H : ((laws_toMoments.f k a0_0 l0_1).bind fun bt1038 => ((impl_KernelOf.f k bt1038.1 bt1038.2 a1 a2).bind fun bt1043 => ((laws_eqInt64S.f k bt1043.1 t1034).bind fun t1047 => (if t1047 = true then (laws_FnExactKernelOf.j0 k a1 a2 t1034 t1037 bt1043.1 bt1043.2 (bt1043.2 != t1037) a0_0 l0_1 bt1038.1 bt1038.2) else (laws_FnExactKernelOf.j0 k a1 a2 t1034 t1037 bt1043.1 bt1043.2 true a0_0 l0_1 bt1038.1 bt1038.2))))) = some r := H
  have A10 := zA A100
  clear A100
  replace H := Option.bind_eq_some_iff.mp H
  obtain ⟨⟨t1038, t1039⟩, A110, H⟩ := H
  replace H : ((impl_KernelOf.f k t1038 t1039 a1 a2).bind fun bt1043 => ((laws_eqInt64S.f k bt1043.1 t1034).bind fun t1047 => (if t1047 = true then (laws_FnExactKernelOf.j0 k a1 a2 t1034 t1037 bt1043.1 bt1043.2 (bt1043.2 != t1037) a0_0 l0_1 t1038 t1039) else (laws_FnExactKernelOf.j0 k a1 a2 t1034 t1037 bt1043.1 bt1043.2 true a0_0 l0_1 t1038 t1039)))) = some r := H
  have A11 := zA A110
  clear A110
  replace H := Option.bind_eq_some_iff.mp H
  obtain ⟨⟨t1043, t1046⟩, A120, H⟩ := H
  replace H : ((laws_eqInt64S.f k t1043 t1034).bind fun t1047 => (if t1047 = true then (laws_FnExactKernelOf.j0 k a1 a2 t1034 t1037 t1043 t1046 (t1046 != t1037) a0_0 l0_1 t1038 t1039) else (laws_FnExactKernelOf.j0 k a1 a2 t1034 t1037 t1043 t1046 true a0_0 l0_1 t1038 t1039))) = some r := H
  have A12 := zA A120
  clear A120
  have HC13 := zA H
  clear H
  go_enter Try.func13, Try.ntmps13
  go_upto_region 8 with (first | ((with_reducible refine gate_dst (N := 3) rfl ?_); refine bx 3 #[.int .i64 a0_0, .slice A0_1 l0_1.length c0_1] 34 ?_; intro gb1028 hg w14 hbox hb; have BK1028 := zA (hbox); have GW1028 := gq HB hg; have GE1028 := gq HB hg; replace HB := xH HB hb; have := geI GE1028; clear hb hbox hg; have hcz15_0 := bc BK1028 0; have hcz15_1 := bc BK1028 1; have hfz15_0 := bf BK1028 0; have hfz15_1 := bf BK1028 1) | ((with_reducible refine gate_callee (f := 22) rfl ?_); refine gL (some 20) Try.func22 #[.agg #[.int .i64 a0_0, .slice A0_1 l0_1.length c0_1], .int .i64 1048576] ?_; (with_reducible refine (laws_szMoments.calls a0_0 _ _ l0_1 1048576 t1029 _ ?side1 ?side2 A4.out).mono ?_); (case side1 => exact uC ((Kd.C_below HR0_1.out HB.out))); (case side2 => exact HC0_1.out); rintro e w16 ⟨rfl, hb⟩; refine ⟨_, rfl, ?_⟩; replace BK1028 := xB BK1028 hb; replace HB := xH HB hb; (try clear hb); (try clear hb2); (try clear hk); (try clear hi); have hcz17_0 := bc BK1028 0; have hcz17_1 := bc BK1028 1; have hfz17_0 := bf BK1028 0; have hfz17_1 := bf BK1028 1) | ((with_reducible refine gate_callee (f := 24) rfl ?_); refine gL (some 25) Try.func24 #[.agg #[.int .i64 a0_0, .slice A0_1 l0_1.length c0_1]] ?_; (with_reducible refine (laws_toMoments.calls k a0_0 _ _ l0_1 t1030 t1031 _ ?side1 ?side2 A9.out).mono ?_); (case side1 => exact uC ((Kd.C_below HR0_1.out HB.out))); (case side2 => exact HC0_1.out); rintro e w18 ⟨v1032, rfl, ho0, hb⟩; refine ⟨_, rfl, ?_⟩; have HO1033 := zA (Kd.R_lower ho0 (below_size (uH HB.out))); replace BK1028 := xB BK1028 hb; replace HB := xH HB hb; (try clear hb); (try clear hb2); (try clear hk); (try clear hi); (try clear ho0); obtain ⟨Ao19, co19, eo19⟩ := Kd.R_slice HO1033.out; subst eo19) | ((with_reducible refine gate_callee (f := 51) rfl ?_); refine gL (some 28) Try.func51 #[.agg #[.int .i64 t1030, .slice Ao19 t1031.length co19], .int .i64 a1, .int .i64 a2] ?_; (with_reducible refine (spec_KernelOf.calls k t1030 _ _ t1031 a1 a2 t1034 t1037 _ ?side1 ?side2 A10.out).mono ?_); (case side1 => exact uC ((Kd.R_reads' HO1033.out).2.2)); (case side2 => exact (Kd.R_reads' HO1033.out).2.1); rintro e w20 ⟨v1035, rfl, ho0, hb⟩; refine ⟨_, rfl, ?_⟩; have HO1036 := zA (Kd.R_lower (Kd.R_new' ho0 (Kd.R_lt (uR HO1033.out))) (below_size (uH HB.out))); replace HO1033 := zA (Kd.R_elder' (uR HO1033.out) (Kd.R_base ho0) hb); replace BK1028 := xB BK1028 hb; replace HB := xH HB hb; (try clear hb); (try clear hb2); (try clear hk); (try clear hi); (try clear ho0); have hcz21_0 := bc BK1028 0; have hcz21_1 := bc BK1028 1; have hfz21_0 := bf BK1028 0; have hfz21_1 := bf BK1028 1) | ((with_reducible refine gate_callee (f := 24) rfl ?_); refine gL (some 32) Try.func24 #[.agg #[.int .i64 a0_0, .slice A0_1 l0_1.length c0_1]] ?_; (with_reducible refine (laws_toMoments.calls k a0_0 _ _ l0_1 t1038 t1039 _ ?side1 ?side2 A11.out).mono ?_); (case side1 => exact uC ((Kd.C_below HR0_1.out HB.out))); (case side2 => exact HC0_1.out); rintro e w22 ⟨v1040, rfl, ho0, hb⟩; refine ⟨_, rfl, ?_⟩; have HO1041 := zA (Kd.R_lower (Kd.R_new' (Kd.R_new' ho0 (Kd.R_lt (uR HO1033.out))) (Kd.R_lt (uR HO1036.out))) (below_size (uH HB.out))); replace HO1033 := zA (Kd.R_elder' (uR HO1033.out) (Kd.R_base ho0) hb); replace HO1036 := zA (Kd.R_elder' (uR HO1036.out) (Kd.R_base ho0) hb); replace BK1028 := xB BK1028 hb; replace HB := xH HB hb; (try clear hb); (try clear hb2); (try clear hk); (try clear hi); (try clear ho0)) | ((with_reducible refine gate_dst (N := 10) rfl ?_); refine bx 10 #[.int .i64 0, .slice none 0 0] 40 ?_; intro gb1042 hg w23 hbox hb; replace HO1033 := xR HO1033 hb; replace HO1036 := xR HO1036 hb; replace HO1041 := xR HO1041 hb; have BK1042 := zA (hbox); have GW1042 := gq HB hg; have GE1042 := gq HB hg; replace HB := xH HB hb; have NB1028_1042 := zA ((by rw [hg]; exact neL BK1028 : gb1028 ≠ gb1042)); have NB1042_1028 := zA ((by rw [hg]; exact neG BK1028 : gb1042 ≠ gb1028)); replace BK1028 := xB BK1028 hb; have := geI GE1042; clear hb hbox hg; have hnb24 := NB1042_1028.out; have hnc24 := NB1028_1042.out; have hcz25_0 := bc BK1042 0; have hcz25_1 := bc BK1042 1; have hfz25_0 := bf BK1042 0; have hfz25_1 := bf BK1042 1; obtain ⟨Ao26, co26, eo26⟩ := Kd.R_slice HO1041.out; subst eo26) | ((with_reducible refine gate_callee (f := 52) rfl ?_); refine gL (some 37) Try.func52 #[.agg #[.int .i64 t1038, .slice Ao26 t1039.length co26], .int .i64 a1, .int .i64 a2] ?_; (with_reducible refine (impl_KernelOf.calls k t1038 _ _ t1039 a1 a2 t1043 t1046 _ ?side1 ?side2 A12.out).mono ?_); (case side1 => refine (Kd.R_reads' (e := 2) (base := w.heap.size) (ok := fun k_ => ((True ∧ ax k_ (.slice Ao19 t1031.length co19)) ∧ some k_ ≠ (v1035 : Value).ownBlock)) (n := t1039.length) (c := co26) ?_).2.2; exact (uR ((rf2 HO1041 BK1042 (by decide) (.int .i64 t1038) (.slice Ao26 t1039.length co26))))); (case side2 => exact (Kd.R_reads' HO1041.out).2.1); rintro e w27 ⟨v1044, rfl, ho0, hb⟩; refine ⟨_, rfl, ?_⟩; have HO1045 := zA (Kd.R_lower (Kd.R_new' (Kd.R_new' (Kd.R_new' ho0 (Kd.R_lt (uR ((rf2 HO1033 BK1042 (by decide) (.int .i64 t1038) (.slice Ao26 t1039.length co26)))))) (Kd.R_lt (uR ((rf2 HO1036 BK1042 (by decide) (.int .i64 t1038) (.slice Ao26 t1039.length co26)))))) (Kd.R_lt (uR ((rf2 HO1041 BK1042 (by decide) (.int .i64 t1038) (.slice Ao26 t1039.length co26)))))) (below_size (uH HB.out))); replace HO1033 := zA (Kd.R_elder' (uR ((rf2 HO1033 BK1042 (by decide) (.int .i64 t1038) (.slice Ao26 t1039.length co26)))) (Kd.R_base ho0) hb); replace HO1036 := zA (Kd.R_elder' (uR ((rf2 HO1036 BK1042 (by decide) (.int .i64 t1038) (.slice Ao26 t1039.length co26)))) (Kd.R_base ho0) hb); replace HO1041 := zA (Kd.R_elder' (uR ((rf2 HO1041 BK1042 (by decide) (.int .i64 t1038) (.slice Ao26 t1039.length co26)))) (Kd.R_base ho0) hb); replace BK1028 := zA (blk_below (g := gb1028) (o := .cells #[.int .i64 a0_0, .slice A0_1 l0_1.length c0_1] 34 (0, 0)) (by (repeat refine up1 ?_); refine blk_far ?_ NB1028_1042.out _; (repeat refine up1 ?_); refine blk_far ?_ NB1028_1042.out _; (repeat refine up1 ?_); exact BK1028.out) hb); replace BK1042 := zA (blk_below (g := gb1042) (o := .cells #[.int .i64 t1038, .slice Ao26 t1039.length co26] 40 (0, 0)) (by (repeat refine up1 ?_); refine blk_put (cs := #[.int .i64 t1038, .slice none 0 0]) ?_ 1 _ rfl; (repeat refine up1 ?_); refine blk_put (cs := #[.int .i64 0, .slice none 0 0]) ?_ 0 _ rfl; (repeat refine up1 ?_); exact BK1042.out) hb); replace HB := xH HB hb; (try clear hb); (try clear hb2); (try clear hk); (try clear hi); (try clear ho0)))
  (try simp only [Act.put, ls, lz, ln])
  go_cut [48] (fun v48 wc => ∃ (kq : Nat) (x48_12 : Bool), v48 = .bool x48_12 ∧ Aside0 (laws_FnExactKernelOf.j0 kq a1 a2 t1034 t1037 t1043 t1046 x48_12 a0_0 l0_1 t1038 t1039 = some r) ∧ Aside0 (kq ≤ k) ∧ Aside0 (Kd.R (Kd.int .i64) 2 wc w.heap.size (fun k_ => some k_ ≠ (v1044 : Value).ownBlock ∧ ax k_ (.slice Ao26 t1039.length co26)) v1035 t1034) ∧ Aside0 (Kd.R (Kd.int .i64) 2 wc w.heap.size (fun k_ => some k_ ≠ (v1035 : Value).ownBlock ∧ ax k_ (.slice Ao26 t1039.length co26)) v1044 t1043) ∧ Aside0 (Kd.R (Kd.int .i64) 2 wc w.heap.size (fun k_ => some k_ ≠ (v1035 : Value).ownBlock ∧ some k_ ≠ (v1044 : Value).ownBlock) (.slice Ao26 t1039.length co26) t1039) ∧ Aside0 (wc.heap[gb1028]? = some (.cells #[.int .i64 a0_0, (.slice A0_1 l0_1.length c0_1)] 34 (0, 0))) ∧ Aside0 (wc.heap[gb1042]? = some (.cells #[.int .i64 t1038, (.slice Ao26 t1039.length co26)] 40 (0, 0))) ∧ Aside0 (Below w.heap.size w wc))
  case first =>
   have H := HC13.out
   clear HC13
   replace H := Option.bind_eq_some_iff.mp H
   obtain ⟨t1047, A280, H⟩ := H
   replace H : (if t1047 = true then (laws_FnExactKernelOf.j0 k a1 a2 t1034 t1037 t1043 t1046 (t1046 != t1037) a0_0 l0_1 t1038 t1039) else (laws_FnExactKernelOf.j0 k a1 a2 t1034 t1037 t1043 t1046 true a0_0 l0_1 t1038 t1039)) = some r := H
   have A28 := zA A280
   clear A280
   by_cases c29 : t1047 = true
   ·subst c29
    have H1 : (laws_FnExactKernelOf.j0 k a1 a2 t1034 t1037 t1043 t1046 (t1046 != t1037) a0_0 l0_1 t1038 t1039) = some r := by rw [if_pos rfl] at H; exact H
    clear H
    have H := H1
    clear H1
    have H' := zA H
    clear H
    obtain ⟨Ao30, co30, eo30⟩ := Kd.R_slice HO1045.out
    subst eo30
    obtain ⟨Ao31, co31, eo31⟩ := Kd.R_slice HO1036.out
    subst eo31
    go_wp2_with (first | ((with_reducible refine gate_callee (f := 29) rfl ?_); refine gL (some 42) Try.func29 #[.slice Ao30 t1043.length co30, .slice Ao31 t1034.length co31] ?_; (with_reducible refine (laws_eqInt64S.calls k _ _ t1043 _ _ t1034 true _ ?side1 ?side2 ?side3 ?side4 A28.out).mono ?_); (case side1 => exact uC ((Kd.R_reads' HO1045.out).2.2)); (case side2 => exact (Kd.R_reads' HO1045.out).2.1); (case side3 => exact uC ((Kd.R_reads' HO1036.out).2.2)); (case side4 => exact (Kd.R_reads' HO1036.out).2.1); rintro e w' ⟨rfl, ⟨nd, rfl⟩⟩; refine ⟨_, rfl, ?_⟩))
    go_meet
    case rel => exact ⟨_, ((t1046 != t1037)), (by first | rfl | (simp; done) | (simp [*]; done)), H', ⟨by first | omega | exact Nat.le_refl _⟩, ⟨uR (Kd.R_mono HO1036.out (fun _ hk => ⟨hk.2, hk.1.2⟩))⟩, ⟨uR (Kd.R_mono HO1045.out (fun _ hk => ⟨hk.1.2, hk.2⟩))⟩, ⟨uR (Kd.R_mono HO1041.out (fun _ hk => ⟨hk.1.2, hk.2⟩))⟩, ⟨uB BK1028.out⟩, ⟨uB BK1042.out⟩, ⟨uH HB.out⟩⟩
   ·replace c29 := Bool.eq_false_iff.mpr c29
    subst c29
    have H1 : (laws_FnExactKernelOf.j0 k a1 a2 t1034 t1037 t1043 t1046 true a0_0 l0_1 t1038 t1039) = some r := by rw [if_neg (show ¬ (false = true) by decide)] at H; exact H
    clear H
    have H := H1
    clear H1
    have H' := zA H
    clear H
    obtain ⟨Ao32, co32, eo32⟩ := Kd.R_slice HO1045.out
    subst eo32
    obtain ⟨Ao33, co33, eo33⟩ := Kd.R_slice HO1036.out
    subst eo33
    go_wp2_with (first | ((with_reducible refine gate_callee (f := 29) rfl ?_); refine gL (some 42) Try.func29 #[.slice Ao32 t1043.length co32, .slice Ao33 t1034.length co33] ?_; (with_reducible refine (laws_eqInt64S.calls k _ _ t1043 _ _ t1034 false _ ?side1 ?side2 ?side3 ?side4 A28.out).mono ?_); (case side1 => exact uC ((Kd.R_reads' HO1045.out).2.2)); (case side2 => exact (Kd.R_reads' HO1045.out).2.1); (case side3 => exact uC ((Kd.R_reads' HO1036.out).2.2)); (case side4 => exact (Kd.R_reads' HO1036.out).2.1); rintro e w' ⟨rfl, ⟨nd, rfl⟩⟩; refine ⟨_, rfl, ?_⟩))
    go_meet
    case rel => exact ⟨_, (true), (by first | rfl | (simp; done) | (simp [*]; done)), H', ⟨by first | omega | exact Nat.le_refl _⟩, ⟨uR (Kd.R_mono HO1036.out (fun _ hk => ⟨hk.2, hk.1.2⟩))⟩, ⟨uR (Kd.R_mono HO1045.out (fun _ hk => ⟨hk.1.2, hk.2⟩))⟩, ⟨uR (Kd.R_mono HO1041.out (fun _ hk => ⟨hk.1.2, hk.2⟩))⟩, ⟨uB BK1028.out⟩, ⟨uB BK1042.out⟩, ⟨uH HB.out⟩⟩
  case rest =>
   clear HC13
   (try clear c1);(try clear c2);(try clear p2);(try clear c5);(try clear c5b0);(try clear c13);(try clear c22);(try clear c24);(try clear c29);(try clear hcz15_0);(try clear hcz15_1);(try clear hcz17_0);(try clear hcz17_1);(try clear hcz21_0);(try clear hcz21_1);(try clear hcz25_0);(try clear hcz25_1);(try clear hcz7_0);(try clear hcz7_1);(try clear hfz15_0);(try clear hfz15_1);(try clear hfz17_0)
   (try clear hfz17_1);(try clear hfz21_0);(try clear hfz21_1);(try clear hfz25_0);(try clear hfz25_1);(try clear hfz7_0);(try clear hfz7_1)
   obtain ⟨kq, x48_12, rfl, HA, HJ12, HO_8, HO_11, HO_1043001, BK1028, BK1042, HB⟩ := hcut
   cases kq with
   | zero => exact absurd HA.out (by simp [laws_FnExactKernelOf.j0])
   | succ kj12 =>
    have H := HA.out
    clear HA
    simp only [laws_FnExactKernelOf.j0] at H
    by_cases c34 : x48_12 = true
    ·subst c34
     have H1 : (some false) = some r := by rw [if_pos rfl] at H; exact H
     clear H
     have H := H1
     clear H1
     rw [HRT.out] at H
     exact absurd H (by simp)
    ·replace c34 := Bool.eq_false_iff.mpr c34
     subst c34
     have H1 : ((laws_toMoments.f kj12 a0_0 l0_1).bind fun bt1048 => ((laws_eqMoments.f kj12 t1038 t1039 bt1048.1 bt1048.2).bind fun t1052 => (if t1052 = true then ((laws_markMoments.f kj12 t1038 t1039 1).bind fun bt1053 => (if bt1053.1 < 0 then (laws_FnExactKernelOf.j1 kj12 a1 a2 t1034 t1037 t1043 true a0_0 l0_1) else ((laws_eqInt64S.f kj12 t1043 t1034).bind fun t1055 => (if t1055 = true then (laws_FnExactKernelOf.j1 kj12 a1 a2 t1034 t1037 t1043 (t1046 != t1037) a0_0 l0_1) else (laws_FnExactKernelOf.j1 kj12 a1 a2 t1034 t1037 t1043 true a0_0 l0_1))))) else (some false)))) = some r := by rw [if_neg (show ¬ (false = true) by decide)] at H; exact H
     clear H
     have H := H1
     clear H1
     replace H := Option.bind_eq_some_iff.mp H
     obtain ⟨⟨t1048, t1049⟩, A350, H⟩ := H
     replace H : ((laws_eqMoments.f kj12 t1038 t1039 t1048 t1049).bind fun t1052 => (if t1052 = true then ((laws_markMoments.f kj12 t1038 t1039 1).bind fun bt1053 => (if bt1053.1 < 0 then (laws_FnExactKernelOf.j1 kj12 a1 a2 t1034 t1037 t1043 true a0_0 l0_1) else ((laws_eqInt64S.f kj12 t1043 t1034).bind fun t1055 => (if t1055 = true then (laws_FnExactKernelOf.j1 kj12 a1 a2 t1034 t1037 t1043 (t1046 != t1037) a0_0 l0_1) else (laws_FnExactKernelOf.j1 kj12 a1 a2 t1034 t1037 t1043 true a0_0 l0_1))))) else (some false))) = some r := H
     have A35 := zA A350
     clear A350
     replace H := Option.bind_eq_some_iff.mp H
     obtain ⟨t1052, A360, H⟩ := H
     replace H : (if t1052 = true then ((laws_markMoments.f kj12 t1038 t1039 1).bind fun bt1053 => (if bt1053.1 < 0 then (laws_FnExactKernelOf.j1 kj12 a1 a2 t1034 t1037 t1043 true a0_0 l0_1) else ((laws_eqInt64S.f kj12 t1043 t1034).bind fun t1055 => (if t1055 = true then (laws_FnExactKernelOf.j1 kj12 a1 a2 t1034 t1037 t1043 (t1046 != t1037) a0_0 l0_1) else (laws_FnExactKernelOf.j1 kj12 a1 a2 t1034 t1037 t1043 true a0_0 l0_1))))) else (some false)) = some r := H
     have A36 := zA A360
     clear A360
     by_cases c37 : t1052 = true
     ·subst c37
      have H1 : ((laws_markMoments.f kj12 t1038 t1039 1).bind fun bt1053 => (if bt1053.1 < 0 then (laws_FnExactKernelOf.j1 kj12 a1 a2 t1034 t1037 t1043 true a0_0 l0_1) else ((laws_eqInt64S.f kj12 t1043 t1034).bind fun t1055 => (if t1055 = true then (laws_FnExactKernelOf.j1 kj12 a1 a2 t1034 t1037 t1043 (t1046 != t1037) a0_0 l0_1) else (laws_FnExactKernelOf.j1 kj12 a1 a2 t1034 t1037 t1043 true a0_0 l0_1))))) = some r := by rw [if_pos rfl] at H; exact H
      clear H
      have H := H1
      clear H1
      replace H := Option.bind_eq_some_iff.mp H
      obtain ⟨⟨t1053, t1054⟩, A380, H⟩ := H
      replace H : (if t1053 < 0 then (laws_FnExactKernelOf.j1 kj12 a1 a2 t1034 t1037 t1043 true a0_0 l0_1) else ((laws_eqInt64S.f kj12 t1043 t1034).bind fun t1055 => (if t1055 = true then (laws_FnExactKernelOf.j1 kj12 a1 a2 t1034 t1037 t1043 (t1046 != t1037) a0_0 l0_1) else (laws_FnExactKernelOf.j1 kj12 a1 a2 t1034 t1037 t1043 true a0_0 l0_1)))) = some r := H
      have A38 := zA A380
      clear A380
      have HC39 := zA H
      clear H
      try go_wp2
      replace HO_8 := zA (Kd.R_drew HO_8.out)
      replace HO_11 := zA (Kd.R_drew HO_11.out)
      replace HO_1043001 := zA (Kd.R_drew HO_1043001.out)
      replace BK1028 := zA (blk_drew BK1028.out)
      replace BK1042 := zA (blk_drew BK1042.out)
      replace HB := zA (below_drew1 HB.out)
      refine start_ (n := 5) (S := fun w' => w'.cell? ⟨gb1042, 0, none⟩ = some (.int .i64 t1038) ∧ w'.cell? ⟨gb1042, 1, none⟩ = some (.slice Ao26 t1039.length co26) ∧ w'.cell? ⟨gb1028, 0, none⟩ = some (.int .i64 a0_0) ∧ w'.cell? ⟨gb1028, 1, none⟩ = some (.slice A0_1 l0_1.length c0_1)) (ds := []) #[false, false, false, false, false] (by kernel_rfl) rfl rfl ⟨bcu BK1042 0, bcu BK1042 1, bcu BK1028 0, bcu BK1028 1⟩ (fun hHeld => ?_)
      generalize wc.drew = w40 at HO_8 HO_11 HO_1043001 BK1028 BK1042 HB hHeld ⊢
      refine take_ (i := 0) (N := some 49) (v := ?_) (a' := ?_) (bl 5 1) rfl rfl (by kernel_rfl) (fun _ _ _ h => h) (Or.inl ⟨by rfl, ?_⟩) hHeld ?_ ?_
      rotate_left
      ·rintro w' ⟨s0, s1, s2, s3⟩
       go_simp
       with_reducible rfl
      rotate_left
      ·simp only [Act.put, ls, lz, ln, i64_w, i32_w]
       rfl
      refine take_ (i := 1) (N := some 50) (v := ?_) (a' := ?_) (bl 5 3) rfl rfl (by kernel_rfl) (fun _ _ _ h => h) (Or.inl ⟨by rfl, ?_⟩) hHeld ?_ ?_
      rotate_left
      ·rintro w' ⟨s0, s1, s2, s3⟩
       go_simp
       with_reducible rfl
      rotate_left
      ·simp only [Act.put, ls, lz, ln, i64_w, i32_w]
       rfl
      refine one_ (i := 2) (N := some 51) (bl 5 7) rfl rfl (by kernel_rfl) (by decide) (fun K hK => ?_)
      refine gS Try.func24 #[.agg #[.int .i64 a0_0, .slice A0_1 l0_1.length c0_1]] ?_
      with_reducible refine (laws_toMoments.calls kj12 a0_0 _ _ l0_1 t1048 t1049 _ ?side1 ?side2 A35.out).mono ?_
      (case side1 => exact uC ((Kd.C_below HR0_1.out HB.out)))
      (case side2 => exact HC0_1.out)
      rintro e w41 ⟨v1050, rfl, ho0, hb⟩
      refine ⟨_, rfl, ?_⟩
      have HO1051 := zA (Kd.R_lower (Kd.R_new' (Kd.R_new' (Kd.R_new' ho0 (Kd.R_lt (uR HO_8.out))) (Kd.R_lt (uR HO_11.out))) (Kd.R_lt (uR HO_1043001.out))) (below_size (uH HB.out)))
      replace HO_8 := zA (Kd.R_elder' (uR HO_8.out) (Kd.R_base ho0) hb)
      replace HO_11 := zA (Kd.R_elder' (uR HO_11.out) (Kd.R_base ho0) hb)
      replace HO_1043001 := zA (Kd.R_elder' (uR HO_1043001.out) (Kd.R_base ho0) hb)
      replace BK1028 := xB BK1028 hb
      replace BK1042 := xB BK1042 hb
      replace HB := xH HB hb
      (try clear hb); (try clear hb2); (try clear hk); (try clear hi); (try clear ho0)
      obtain ⟨Ao42, co42, eo42⟩ := Kd.R_slice HO1051.out
      (first | subst eo42 | (injection eo42 with f1_ f2_ f3_; have f4_ := f1_.symm; have f5_ := f3_.symm; clear f1_ f2_ f3_; subst f4_; subst f5_))
      refine hK.out _ _ ⟨bcu BK1042 0, bcu BK1042 1, bcu BK1028 0, bcu BK1028 1⟩ (fun hHeld => ?_)
      clear hK K
      refine no_ 51 ?_
      refine one_ (i := 3) (N := some 52) (bl 5 15) rfl rfl (by kernel_rfl) (by decide) (fun K hK => ?_)
      refine gS Try.func28 #[.agg #[.int .i64 t1038, .slice Ao26 t1039.length co26], .agg #[.int .i64 t1048, .slice Ao42 t1049.length co42]] ?_
      with_reducible refine (laws_eqMoments.calls kj12 t1038 _ _ t1039 t1048 _ _ t1049 true _ ?side1 ?side2 ?side3 ?side4 A36.out).mono ?_
      (case side1 => exact uC ((Kd.R_reads' HO_1043001.out).2.2))
      (case side2 => exact (Kd.R_reads' HO_1043001.out).2.1)
      (case side3 => exact uC ((Kd.R_reads' HO1051.out).2.2))
      (case side4 => exact (Kd.R_reads' HO1051.out).2.1)
      rintro e w43 ⟨rfl, hb⟩
      refine ⟨_, rfl, ?_⟩
      replace HO_8 := xR HO_8 hb
      replace HO_11 := xR HO_11 hb
      replace HO_1043001 := xR HO_1043001 hb
      replace HO1051 := xR HO1051 hb
      replace BK1028 := xB BK1028 hb
      replace BK1042 := xB BK1042 hb
      replace HB := xH HB hb
      (try clear hb); (try clear hb2); (try clear hk); (try clear hi)
      refine hK.out _ _ ⟨bcu BK1042 0, bcu BK1042 1, bcu BK1028 0, bcu BK1028 1⟩ (fun hHeld => ?_)
      clear hK K
      refine no_ 52 ?_
      refine pure_ (i := 4) (N := some 53) (v := ?_) (a' := ?_) (bl 5 31) rfl rfl (by kernel_rfl) (fun _ _ _ h => h) (Or.inl ⟨by rfl, ?_⟩) ?_ ?_
      rotate_left
      ·intro w'
       go_simp
       with_reducible rfl
      rotate_left
      ·simp only [Act.put, ls, lz, ln, i64_w, i32_w]
       rfl
      refine done_ (by kernel_rfl) ?_
      have hnb44 := NB1042_1028.out; have hnc44 := NB1028_1042.out
      have hcz45_0 := bc BK1042 0
      have hcz45_1 := bc BK1042 1
      have hfz45_0 := bf BK1042 0
      have hfz45_1 := bf BK1042 1
      go_upto_region 14 with (first | ((with_reducible refine gate_callee (f := 30) rfl ?_); refine gL (some 56) Try.func30 #[.agg #[.int .i64 t1038, .slice Ao26 t1039.length co26], .int .i64 1] ?_; (with_reducible refine (laws_markMoments.calls kj12 t1038 (fun k_ => some k_ = (.slice Ao26 t1039.length co26 : Value).ownBlock) (.slice Ao26 t1039.length co26) t1039 1 t1053 t1054 w _ ?side1 ?side2 A38.out).mono ?_); (case side1 => repeat (first | (with_reducible first | exact HB.out | apply below_alloc | apply pw_below_drewN | apply below_drew1 | refine below_set ?_ GE1028.out | refine below_set ?_ GE1042.out) | exact HB.out)); (case side2 => exact Kd.R_tight rfl HO_1043001.out); rintro e w46 ⟨rfl, hy0, hb, hkp⟩; refine ⟨_, rfl, ?_⟩; replace HO_8 := zA (Kd.R_mono (ok' := fun k_ => some k_ ≠ (v1044 : Value).ownBlock ∧ ax k_ (.slice Ao26 t1039.length co26) ∧ ax k_ (.slice Ao42 t1049.length co42)) (Kd.R_keptB (HO_8.out) hkp (fun k_ hk_ hs_ => (hk_.1.2) hs_)) (fun k_ hk_ => ⟨hk_.1.1.1, hk_.1.1.2, hk_.1.2⟩)); replace HO_11 := zA (Kd.R_mono (ok' := fun k_ => some k_ ≠ (v1035 : Value).ownBlock ∧ ax k_ (.slice Ao26 t1039.length co26) ∧ ax k_ (.slice Ao42 t1049.length co42)) (Kd.R_keptB (HO_11.out) hkp (fun k_ hk_ hs_ => (hk_.1.2) hs_)) (fun k_ hk_ => ⟨hk_.1.1.1, hk_.1.1.2, hk_.1.2⟩)); replace BK1028 := zA (blk_kept (uB BK1028.out) hkp (fun hs_ => (fun e_ => (Kd.R_ne HO_1043001.out BK1028.out (by decide)) e_) hs_)); replace BK1042 := zA (blk_kept (uB BK1042.out) hkp (fun hs_ => (fun e_ => (Kd.R_ne HO_1043001.out BK1042.out (by decide)) e_) hs_)); replace HO_1043001 := zA (Kd.R_reok rfl hy0 (fun k_ e_ => HO_1043001.out.1 k_ e_)); replace HO1051 := zA (Kd.R_mono (ok' := fun k_ => some k_ ≠ (v1035 : Value).ownBlock ∧ some k_ ≠ (v1044 : Value).ownBlock ∧ ax k_ (.slice Ao26 t1039.length co26)) (Kd.R_keptB (HO1051.out) hkp (fun k_ hk_ hs_ => (hk_.2) hs_)) (fun k_ hk_ => ⟨hk_.1.1.1.2, hk_.1.1.2, hk_.1.2⟩)); replace HB := zA (hb); (try clear hb); (try clear hkp); (try clear hy0)))
      (try simp only [Act.put, ls, lz, ln])
      go_cut [69] (fun v69 wc => ∃ (kq : Nat) (x69_38 : Bool), v69 = .bool x69_38 ∧ Aside0 (laws_FnExactKernelOf.j1 kq a1 a2 t1034 t1037 t1043 x69_38 a0_0 l0_1 = some r) ∧ Aside0 (kq ≤ kj12) ∧ Aside0 (Kd.R (Kd.int .i64) 2 wc w.heap.size (fun k_ => some k_ ≠ (v1044 : Value).ownBlock ∧ ax k_ (.slice Ao26 t1039.length co26)) v1035 t1034) ∧ Aside0 (Kd.R (Kd.int .i64) 2 wc w.heap.size (fun k_ => some k_ ≠ (v1035 : Value).ownBlock ∧ ax k_ (.slice Ao26 t1039.length co26)) v1044 t1043) ∧ Aside0 (Kd.R (Kd.int .i64) 2 wc w.heap.size (fun k_ => some k_ ≠ (v1035 : Value).ownBlock ∧ some k_ ≠ (v1044 : Value).ownBlock) (.slice Ao26 t1039.length co26) t1054) ∧ Aside0 (wc.heap[gb1028]? = some (.cells #[.int .i64 a0_0, (.slice A0_1 l0_1.length c0_1)] 34 (0, 0))) ∧ Aside0 (wc.heap[gb1042]? = some (.cells #[.int .i64 t1038, (.slice Ao26 t1039.length co26)] 40 (0, 0))) ∧ Aside0 (Below w.heap.size w wc))
      case first =>
       have H := HC39.out
       clear HC39
       by_cases c47 : t1053 < 0
       rotate_left
       ·rw [if_neg c47] at H
        have c47b0 : decide (t1053 < 0) = false := decide_eq_false c47
        clear c47
        (first | rw [c47b0] | (simp only [i64_w, i32_w]; rw [c47b0]) | skip)
        replace H := Option.bind_eq_some_iff.mp H
        obtain ⟨t1055, A480, H⟩ := H
        replace H : (if t1055 = true then (laws_FnExactKernelOf.j1 kj12 a1 a2 t1034 t1037 t1043 (t1046 != t1037) a0_0 l0_1) else (laws_FnExactKernelOf.j1 kj12 a1 a2 t1034 t1037 t1043 true a0_0 l0_1)) = some r := H
        have A48 := zA A480
        clear A480
        by_cases c49 : t1055 = true
        ·subst c49
         have H1 : (laws_FnExactKernelOf.j1 kj12 a1 a2 t1034 t1037 t1043 (t1046 != t1037) a0_0 l0_1) = some r := by rw [if_pos rfl] at H; exact H
         clear H
         have H := H1
         clear H1
         have H' := zA H
         clear H
         obtain ⟨Ao50, co50, eo50⟩ := Kd.R_slice HO_11.out
         subst eo50
         obtain ⟨Ao51, co51, eo51⟩ := Kd.R_slice HO_8.out
         subst eo51
         go_wp2_with (first | (go_at_call 29; (with_reducible refine (laws_eqInt64S.calls kj12 _ _ t1043 _ _ t1034 true _ ?side1 ?side2 ?side3 ?side4 A48.out).mono ?_); (case side1 => exact uC ((Kd.R_reads' HO_11.out).2.2)); (case side2 => exact (Kd.R_reads' HO_11.out).2.1); (case side3 => exact uC ((Kd.R_reads' HO_8.out).2.2)); (case side4 => exact (Kd.R_reads' HO_8.out).2.1); rintro e w' ⟨rfl, ⟨nd, rfl⟩⟩))
         go_meet
         case rel => exact ⟨_, ((t1046 != t1037)), (by first | rfl | (simp; done) | (simp [*]; done)), H', ⟨by have := HJ12.out; first | omega | exact Nat.le_refl _⟩, ⟨uR (Kd.R_mono HO_8.out (fun _ hk => ⟨hk.1, hk.2.1⟩))⟩, ⟨uR (Kd.R_mono HO_11.out (fun _ hk => ⟨hk.1, hk.2.1⟩))⟩, ⟨uR (Kd.R_mono HO_1043001.out (fun _ hk => ⟨hk.1.1, hk.1.2⟩))⟩, ⟨uB BK1028.out⟩, ⟨uB BK1042.out⟩, ⟨uH HB.out⟩⟩
        ·replace c49 := Bool.eq_false_iff.mpr c49
         subst c49
         have H1 : (laws_FnExactKernelOf.j1 kj12 a1 a2 t1034 t1037 t1043 true a0_0 l0_1) = some r := by rw [if_neg (show ¬ (false = true) by decide)] at H; exact H
         clear H
         have H := H1
         clear H1
         have H' := zA H
         clear H
         obtain ⟨Ao52, co52, eo52⟩ := Kd.R_slice HO_11.out
         subst eo52
         obtain ⟨Ao53, co53, eo53⟩ := Kd.R_slice HO_8.out
         subst eo53
         go_wp2_with (first | (go_at_call 29; (with_reducible refine (laws_eqInt64S.calls kj12 _ _ t1043 _ _ t1034 false _ ?side1 ?side2 ?side3 ?side4 A48.out).mono ?_); (case side1 => exact uC ((Kd.R_reads' HO_11.out).2.2)); (case side2 => exact (Kd.R_reads' HO_11.out).2.1); (case side3 => exact uC ((Kd.R_reads' HO_8.out).2.2)); (case side4 => exact (Kd.R_reads' HO_8.out).2.1); rintro e w' ⟨rfl, ⟨nd, rfl⟩⟩))
         go_meet
         case rel => exact ⟨_, (true), (by first | rfl | (simp; done) | (simp [*]; done)), H', ⟨by have := HJ12.out; first | omega | exact Nat.le_refl _⟩, ⟨uR (Kd.R_mono HO_8.out (fun _ hk => ⟨hk.1, hk.2.1⟩))⟩, ⟨uR (Kd.R_mono HO_11.out (fun _ hk => ⟨hk.1, hk.2.1⟩))⟩, ⟨uR (Kd.R_mono HO_1043001.out (fun _ hk => ⟨hk.1.1, hk.1.2⟩))⟩, ⟨uB BK1028.out⟩, ⟨uB BK1042.out⟩, ⟨uH HB.out⟩⟩
       rw [if_pos c47] at H
       have c47b0 : decide (t1053 < 0) = true := decide_eq_true c47
       clear c47
       (first | rw [c47b0] | (simp only [i64_w, i32_w]; rw [c47b0]) | skip)
       have H' := zA H
       clear H
       go_wp2
       go_meet
       case rel => exact ⟨_, (true), (by first | rfl | (simp; done) | (simp [*]; done)), H', ⟨by have := HJ12.out; first | omega | exact Nat.le_refl _⟩, ⟨uR (Kd.R_mono HO_8.out (fun _ hk => ⟨hk.1, hk.2.1⟩))⟩, ⟨uR (Kd.R_mono HO_11.out (fun _ hk => ⟨hk.1, hk.2.1⟩))⟩, ⟨uR (Kd.R_mono HO_1043001.out (fun _ hk => ⟨hk.1.1, hk.1.2⟩))⟩, ⟨uB BK1028.out⟩, ⟨uB BK1042.out⟩, ⟨uH HB.out⟩⟩
      case rest =>
       clear HC39
       (try clear c1);(try clear c2);(try clear p2);(try clear c3);(try clear c4);(try clear c5);(try clear c5b0);(try clear c13);(try clear c22);(try clear c24);(try clear c28);(try clear c29);(try clear c30);(try clear c34);(try clear c37);(try clear c44);(try clear c47);(try clear c47b0);(try clear c49);(try clear c51);(try clear c52);(try clear hcz15_0);(try clear hcz15_1);(try clear hcz17_0);(try clear hcz17_1)
       (try clear hcz21_0);(try clear hcz21_1);(try clear hcz25_0);(try clear hcz25_1);(try clear hcz45_0);(try clear hcz45_1);(try clear hcz7_0);(try clear hcz7_1);(try clear hfz15_0);(try clear hfz15_1);(try clear hfz17_0);(try clear hfz17_1);(try clear hfz21_0);(try clear hfz21_1);(try clear hfz25_0);(try clear hfz25_1);(try clear hfz45_0);(try clear hfz45_1);(try clear hfz7_0);(try clear hfz7_1)
       try clear p2
       obtain ⟨kq, x69_38, rfl, HA, HJ38, HO_8, HO_11, HO_1043001, BK1028, BK1042, HB⟩ := hcut
       have hl1043001_38 := (Kd.R_reads' HO_1043001.out).1
       rw [hl1043001_38] at HO_1043001
       (try simp only [hl1043001_38])
       (try simp only [hl1043001_38] at BK1028)
       (try simp only [hl1043001_38] at BK1042)
       (try simp only [hl1043001_38] at HO_8)
       (try simp only [hl1043001_38] at HO_11)
       cases kq with
       | zero => exact absurd HA.out (by simp [laws_FnExactKernelOf.j1])
       | succ kj38 =>
        have H := HA.out
        clear HA
        simp only [laws_FnExactKernelOf.j1] at H
        by_cases c54 : x69_38 = true
        ·subst c54
         have H1 : (some false) = some r := by rw [if_pos rfl] at H; exact H
         clear H
         have H := H1
         clear H1
         rw [HRT.out] at H
         exact absurd H (by simp)
        ·replace c54 := Bool.eq_false_iff.mpr c54
         subst c54
         have H1 : ((laws_markInt64S.f kj38 t1043 1).bind fun bt1056 => ((laws_heldInt64S.f kj38 bt1056.2 1).bind fun t1058 => (if t1058 < 0 then (some false) else (if t1058 = bt1056.1 then ((laws_toMoments.f kj38 a0_0 l0_1).bind fun bt1059 => ((impl_KernelOf.f kj38 bt1059.1 bt1059.2 a1 a2).bind fun bt1063 => ((laws_eqInt64S.f kj38 bt1063.1 t1034).bind fun t1067 => (if t1067 = true then (laws_FnExactKernelOf.j2 kj38 bt1056.2 bt1056.1 (bt1063.2 != t1037)) else (laws_FnExactKernelOf.j2 kj38 bt1056.2 bt1056.1 true))))) else (some false))))) = some r := by rw [if_neg (show ¬ (false = true) by decide)] at H; exact H
         clear H
         have H := H1
         clear H1
         replace H := Option.bind_eq_some_iff.mp H
         obtain ⟨⟨t1056, t1057⟩, A550, H⟩ := H
         replace H : ((laws_heldInt64S.f kj38 t1057 1).bind fun t1058 => (if t1058 < 0 then (some false) else (if t1058 = t1056 then ((laws_toMoments.f kj38 a0_0 l0_1).bind fun bt1059 => ((impl_KernelOf.f kj38 bt1059.1 bt1059.2 a1 a2).bind fun bt1063 => ((laws_eqInt64S.f kj38 bt1063.1 t1034).bind fun t1067 => (if t1067 = true then (laws_FnExactKernelOf.j2 kj38 t1057 t1056 (bt1063.2 != t1037)) else (laws_FnExactKernelOf.j2 kj38 t1057 t1056 true))))) else (some false)))) = some r := H
         have A55 := zA A550
         clear A550
         replace H := Option.bind_eq_some_iff.mp H
         obtain ⟨t1058, A560, H⟩ := H
         replace H : (if t1058 < 0 then (some false) else (if t1058 = t1056 then ((laws_toMoments.f kj38 a0_0 l0_1).bind fun bt1059 => ((impl_KernelOf.f kj38 bt1059.1 bt1059.2 a1 a2).bind fun bt1063 => ((laws_eqInt64S.f kj38 bt1063.1 t1034).bind fun t1067 => (if t1067 = true then (laws_FnExactKernelOf.j2 kj38 t1057 t1056 (bt1063.2 != t1037)) else (laws_FnExactKernelOf.j2 kj38 t1057 t1056 true))))) else (some false))) = some r := H
         have A56 := zA A560
         clear A560
         by_cases c57 : t1058 < 0
         rotate_left
         ·rw [if_neg c57] at H
          have c57b0 : decide (t1058 < 0) = false := decide_eq_false c57
          clear c57
          by_cases c58 : t1058 = t1056
          rotate_left
          ·rw [if_neg c58] at H
           have c58b0 : (t1058 == t1056) = false := beq_eq_false_iff_ne.mpr c58
           have c58b1 : (t1058 != t1056) = true := bne_iff_ne.mpr c58
           rw [HRT.out] at H
           exact absurd H (by simp)
          rw [if_pos c58] at H
          have c58b0 : (t1058 == t1056) = true := beq_iff_eq.mpr c58
          have c58b1 : (t1058 != t1056) = false := bne_eq_false_iff_eq.mpr c58
          clear c58
          replace H := Option.bind_eq_some_iff.mp H
          obtain ⟨⟨t1059, t1060⟩, A590, H⟩ := H
          replace H : ((impl_KernelOf.f kj38 t1059 t1060 a1 a2).bind fun bt1063 => ((laws_eqInt64S.f kj38 bt1063.1 t1034).bind fun t1067 => (if t1067 = true then (laws_FnExactKernelOf.j2 kj38 t1057 t1056 (bt1063.2 != t1037)) else (laws_FnExactKernelOf.j2 kj38 t1057 t1056 true)))) = some r := H
          have A59 := zA A590
          clear A590
          replace H := Option.bind_eq_some_iff.mp H
          obtain ⟨⟨t1063, t1066⟩, A600, H⟩ := H
          replace H : ((laws_eqInt64S.f kj38 t1063 t1034).bind fun t1067 => (if t1067 = true then (laws_FnExactKernelOf.j2 kj38 t1057 t1056 (t1066 != t1037)) else (laws_FnExactKernelOf.j2 kj38 t1057 t1056 true))) = some r := H
          have A60 := zA A600
          clear A600
          have HC61 := zA H
          clear H
          obtain ⟨Ao62, co62, eo62⟩ := Kd.R_slice HO_11.out
          subst eo62
          go_upto_region 25 with (first | ((with_reducible refine gate_callee (f := 31) rfl ?_); refine gL (some 72) Try.func31 #[.slice Ao62 t1043.length co62, .int .i64 1] ?_; (with_reducible refine (laws_markInt64S.calls kj38 (fun k_ => some k_ = (.slice Ao62 t1043.length co62 : Value).ownBlock) (.slice Ao62 t1043.length co62) t1043 1 t1056 t1057 w _ ?side1 ?side2 A55.out).mono ?_); (case side1 => repeat (first | (with_reducible first | exact HB.out | apply below_alloc | apply pw_below_drewN | apply below_drew1 | refine below_set ?_ GE1028.out | refine below_set ?_ GE1042.out) | exact HB.out)); (case side2 => exact Kd.R_tight rfl HO_11.out); rintro e w63 ⟨rfl, hy0, hb, hkp⟩; refine ⟨_, rfl, ?_⟩; replace HO_8 := zA (Kd.R_mono (ok' := fun k_ => ax k_ (.slice Ao62 t1043.length co62) ∧ ax k_ (.slice Ao26 t1054.length co26)) (Kd.R_keptB (HO_8.out) hkp (fun k_ hk_ hs_ => (hk_.1) hs_)) (fun k_ hk_ => ⟨hk_.1.1, hk_.1.2⟩)); replace HO_1043001 := zA (Kd.R_mono (ok' := fun k_ => some k_ ≠ (v1035 : Value).ownBlock ∧ ax k_ (.slice Ao62 t1043.length co62)) (Kd.R_keptB (HO_1043001.out) hkp (fun k_ hk_ hs_ => (hk_.2) hs_)) (fun k_ hk_ => ⟨hk_.1.1, hk_.1.2⟩)); replace BK1028 := zA (blk_kept (uB BK1028.out) hkp (fun hs_ => (fun e_ => (Kd.R_ne HO_11.out BK1028.out (by decide)) e_) hs_)); replace BK1042 := zA (blk_kept (uB BK1042.out) hkp (fun hs_ => (fun e_ => (Kd.R_ne HO_11.out BK1042.out (by decide)) e_) hs_)); replace HO_11 := zA (Kd.R_reok rfl hy0 (fun k_ e_ => HO_11.out.1 k_ e_)); replace HB := zA (hb); (try clear hb); (try clear hkp); (try clear hy0)) | ((with_reducible refine gate_callee (f := 40) rfl ?_); refine goesL_ (some 75) rfl rfl Try.func40 (by kernel_rfl) rfl #[.slice Ao62 t1057.length co62, .int .i64 1] rfl (by (try simp only [la, lb, lc]); first | done | (rw [show t1057.length = t1043.length from (Kd.R_reads' HO_11.out).1.symm] <;> rfl) | rfl | (simp only [ld, le]; rfl)) ?_; (with_reducible refine (laws_heldInt64S.calls kj38 _ _ t1057 1 t1058 _ ?side1 ?side2 A56.out).mono ?_); (case side1 => exact uC ((Kd.R_reads' HO_11.out).2.2)); (case side2 => rw [show t1057.length = t1043.length from (Kd.R_reads' HO_11.out).1.symm]; exact (Kd.R_reads' HO_11.out).2.1); rintro e w' ⟨rfl, ⟨nd, rfl⟩⟩; refine ⟨_, rfl, ?_⟩; have hnb64 := NB1028_1042.out; have hnc64 := NB1042_1028.out; have hcz65_0 := bc BK1028 0; have hcz65_1 := bc BK1028 1; have hfz65_0 := bf BK1028 0; have hfz65_1 := bf BK1028 1) | ((with_reducible refine gate_callee (f := 24) rfl ?_); refine gL (some 83) Try.func24 #[.agg #[.int .i64 a0_0, .slice A0_1 l0_1.length c0_1]] ?_; (with_reducible refine (laws_toMoments.calls kj38 a0_0 _ _ l0_1 t1059 t1060 _ ?side1 ?side2 A59.out).mono ?_); (case side1 => repeat (first | exact (Kd.C_below HR0_1.out (uH HB.out)) | (with_reducible refine Kd.C_alloc ?_ _) | (with_reducible refine Kd.C_drewN ?_ _) | (with_reducible refine Kd.C_drew ?_))); (case side2 => exact HC0_1.out); rintro e w66 ⟨v1061, rfl, ho0, hb⟩; refine ⟨_, rfl, ?_⟩; have HO1062 := zA (Kd.R_lower (Kd.R_new' (Kd.R_new' (Kd.R_new' ho0 (Kd.R_lt (uR HO_8.out))) (Kd.R_lt (uR HO_11.out))) (Kd.R_lt (uR HO_1043001.out))) (below_size (uH HB.out))); replace HO_8 := zA (Kd.R_elder' (uR HO_8.out) (Kd.R_base ho0) hb); replace HO_11 := zA (Kd.R_elder' (uR HO_11.out) (Kd.R_base ho0) hb); replace HO_1043001 := zA (Kd.R_elder' (uR HO_1043001.out) (Kd.R_base ho0) hb); replace BK1028 := xB BK1028 hb; replace BK1042 := xB BK1042 hb; replace HB := xH HB hb; (try clear hb); (try clear hb2); (try clear hk); (try clear hi); (try clear ho0); obtain ⟨Ao67, co67, eo67⟩ := Kd.R_slice HO1062.out; subst eo67) | ((with_reducible refine gate_callee (f := 52) rfl ?_); refine gL (some 86) Try.func52 #[.agg #[.int .i64 t1059, .slice Ao67 t1060.length co67], .int .i64 a1, .int .i64 a2] ?_; (with_reducible refine (impl_KernelOf.calls kj38 t1059 _ _ t1060 a1 a2 t1063 t1066 _ ?side1 ?side2 A60.out).mono ?_); (case side1 => exact uC ((Kd.R_reads' HO1062.out).2.2)); (case side2 => exact (Kd.R_reads' HO1062.out).2.1); rintro e w68 ⟨v1064, rfl, ho0, hb⟩; refine ⟨_, rfl, ?_⟩; have HO1065 := zA (Kd.R_lower (Kd.R_new' (Kd.R_new' (Kd.R_new' (Kd.R_new' ho0 (Kd.R_lt (uR HO_8.out))) (Kd.R_lt (uR HO_11.out))) (Kd.R_lt (uR HO_1043001.out))) (Kd.R_lt (uR HO1062.out))) (below_size (uH HB.out))); replace HO_8 := zA (Kd.R_elder' (uR HO_8.out) (Kd.R_base ho0) hb); replace HO_11 := zA (Kd.R_elder' (uR HO_11.out) (Kd.R_base ho0) hb); replace HO_1043001 := zA (Kd.R_elder' (uR HO_1043001.out) (Kd.R_base ho0) hb); replace HO1062 := zA (Kd.R_elder' (uR HO1062.out) (Kd.R_base ho0) hb); replace BK1028 := xB BK1028 hb; replace BK1042 := xB BK1042 hb; replace HB := xH HB hb; (try clear hb); (try clear hb2); (try clear hk); (try clear hi); (try clear ho0)))
          (try simp only [Act.put, ls, lz, ln])
          go_cut [97] (fun v97 wc => ∃ (kq : Nat) (x97_60 : Bool), v97 = .bool x97_60 ∧ Aside0 (laws_FnExactKernelOf.j2 kq t1057 t1056 x97_60 = some r) ∧ Aside0 (kq ≤ kj38) ∧ Aside0 (Kd.R (Kd.int .i64) 2 wc w.heap.size (fun k_ => ax k_ (.slice Ao26 t1054.length co26)) (.slice Ao62 t1043.length co62) t1057) ∧ Aside0 (Kd.R (Kd.int .i64) 2 wc w.heap.size (fun k_ => ax k_ (.slice Ao62 t1043.length co62)) (.slice Ao26 t1054.length co26) t1054) ∧ Aside0 (wc.heap[gb1028]? = some (.cells #[.int .i64 a0_0, (.slice A0_1 l0_1.length c0_1)] 34 (0, 0))) ∧ Aside0 (wc.heap[gb1042]? = some (.cells #[.int .i64 t1038, (.slice Ao26 t1054.length co26)] 40 (0, 0))) ∧ Aside0 (Below w.heap.size w wc))
          case first =>
           have H := HC61.out
           clear HC61
           replace H := Option.bind_eq_some_iff.mp H
           obtain ⟨t1067, A690, H⟩ := H
           replace H : (if t1067 = true then (laws_FnExactKernelOf.j2 kj38 t1057 t1056 (t1066 != t1037)) else (laws_FnExactKernelOf.j2 kj38 t1057 t1056 true)) = some r := H
           have A69 := zA A690
           clear A690
           by_cases c70 : t1067 = true
           ·subst c70
            have H1 : (laws_FnExactKernelOf.j2 kj38 t1057 t1056 (t1066 != t1037)) = some r := by rw [if_pos rfl] at H; exact H
            clear H
            have H := H1
            clear H1
            have H' := zA H
            clear H
            obtain ⟨Ao71, co71, eo71⟩ := Kd.R_slice HO1065.out
            subst eo71
            obtain ⟨Ao72, co72, eo72⟩ := Kd.R_slice HO_8.out
            subst eo72
            go_wp2_with (first | ((with_reducible refine gate_callee (f := 29) rfl ?_); refine gL (some 91) Try.func29 #[.slice Ao71 t1063.length co71, .slice Ao72 t1034.length co72] ?_; (with_reducible refine (laws_eqInt64S.calls kj38 _ _ t1063 _ _ t1034 true _ ?side1 ?side2 ?side3 ?side4 A69.out).mono ?_); (case side1 => exact uC ((Kd.R_reads' HO1065.out).2.2)); (case side2 => exact (Kd.R_reads' HO1065.out).2.1); (case side3 => exact uC ((Kd.R_reads' HO_8.out).2.2)); (case side4 => exact (Kd.R_reads' HO_8.out).2.1); rintro e w' ⟨rfl, ⟨nd, rfl⟩⟩; refine ⟨_, rfl, ?_⟩))
            go_meet
            case rel => exact ⟨_, ((t1066 != t1037)), (by first | rfl | (simp; done) | (simp [*]; done)), H', ⟨by have := HJ12.out; have := HJ38.out; first | omega | exact Nat.le_refl _⟩, ⟨by (try simp only [hl1043001_38]); (with_reducible repeat (first | apply Kd.R_alloc | apply Kd.R_drewN | apply Kd.R_drew)); exact Kd.R_mono HO_11.out (fun _ hk => hk.1.1.2)⟩, ⟨by (try simp only [hl1043001_38]); (with_reducible repeat (first | apply Kd.R_alloc | apply Kd.R_drewN | apply Kd.R_drew)); exact Kd.R_mono HO_1043001.out (fun _ hk => hk.1.1.2)⟩, ⟨by (try simp only [hl1043001_38]); (repeat refine up1 ?_); exact BK1028.out⟩, ⟨by (try simp only [hl1043001_38]); (repeat refine up1 ?_); exact BK1042.out⟩, ⟨uH HB.out⟩⟩
           ·replace c70 := Bool.eq_false_iff.mpr c70
            subst c70
            have H1 : (laws_FnExactKernelOf.j2 kj38 t1057 t1056 true) = some r := by rw [if_neg (show ¬ (false = true) by decide)] at H; exact H
            clear H
            have H := H1
            clear H1
            have H' := zA H
            clear H
            obtain ⟨Ao73, co73, eo73⟩ := Kd.R_slice HO1065.out
            subst eo73
            obtain ⟨Ao74, co74, eo74⟩ := Kd.R_slice HO_8.out
            subst eo74
            go_wp2_with (first | ((with_reducible refine gate_callee (f := 29) rfl ?_); refine gL (some 91) Try.func29 #[.slice Ao73 t1063.length co73, .slice Ao74 t1034.length co74] ?_; (with_reducible refine (laws_eqInt64S.calls kj38 _ _ t1063 _ _ t1034 false _ ?side1 ?side2 ?side3 ?side4 A69.out).mono ?_); (case side1 => exact uC ((Kd.R_reads' HO1065.out).2.2)); (case side2 => exact (Kd.R_reads' HO1065.out).2.1); (case side3 => exact uC ((Kd.R_reads' HO_8.out).2.2)); (case side4 => exact (Kd.R_reads' HO_8.out).2.1); rintro e w' ⟨rfl, ⟨nd, rfl⟩⟩; refine ⟨_, rfl, ?_⟩))
            go_meet
            case rel => exact ⟨_, (true), (by first | rfl | (simp; done) | (simp [*]; done)), H', ⟨by have := HJ12.out; have := HJ38.out; first | omega | exact Nat.le_refl _⟩, ⟨by (try simp only [hl1043001_38]); (with_reducible repeat (first | apply Kd.R_alloc | apply Kd.R_drewN | apply Kd.R_drew)); exact Kd.R_mono HO_11.out (fun _ hk => hk.1.1.2)⟩, ⟨by (try simp only [hl1043001_38]); (with_reducible repeat (first | apply Kd.R_alloc | apply Kd.R_drewN | apply Kd.R_drew)); exact Kd.R_mono HO_1043001.out (fun _ hk => hk.1.1.2)⟩, ⟨by (try simp only [hl1043001_38]); (repeat refine up1 ?_); exact BK1028.out⟩, ⟨by (try simp only [hl1043001_38]); (repeat refine up1 ?_); exact BK1042.out⟩, ⟨uH HB.out⟩⟩
          case rest =>
           clear HC61
           (try clear c1);(try clear c2);(try clear p2);(try clear c3);(try clear c4);(try clear c5);(try clear c5b0);(try clear c6);(try clear c7);(try clear c13);(try clear c22);(try clear c24);(try clear c28);(try clear c29);(try clear c30);(try clear c31);(try clear c34);(try clear c37);(try clear c40);(try clear c44);(try clear c47);(try clear c47b0);(try clear c49);(try clear c51);(try clear c52)
           (try clear c54);(try clear c57);(try clear c57b0);(try clear c58);(try clear c58b0);(try clear c58b1);(try clear c64);(try clear c70);(try clear hcz15_0);(try clear hcz15_1);(try clear hcz17_0);(try clear hcz17_1);(try clear hcz21_0);(try clear hcz21_1);(try clear hcz25_0);(try clear hcz25_1);(try clear hcz45_0);(try clear hcz45_1);(try clear hcz65_0);(try clear hcz65_1);(try clear hcz7_0)
           (try clear hcz7_1);(try clear hfz15_0);(try clear hfz15_1);(try clear hfz17_0);(try clear hfz17_1);(try clear hfz21_0);(try clear hfz21_1);(try clear hfz25_0);(try clear hfz25_1);(try clear hfz45_0);(try clear hfz45_1);(try clear hfz65_0);(try clear hfz65_1);(try clear hfz7_0);(try clear hfz7_1);(try clear p2)
           obtain ⟨kq, x97_60, rfl, HA, HJ60, HO_11, HO_1043001, BK1028, BK1042, HB⟩ := hcut
           have hl11_60 := (Kd.R_reads' HO_11.out).1
           rw [hl11_60] at HO_11
           (try simp only [hl11_60])
           (try simp only [hl11_60] at BK1028)
           (try simp only [hl11_60] at BK1042)
           (try simp only [hl11_60] at HO_1043001)
           cases kq with
           | zero => exact absurd HA.out (by simp [laws_FnExactKernelOf.j2])
           | succ kj60 =>
            have H := HA.out
            clear HA
            simp only [laws_FnExactKernelOf.j2] at H
            by_cases c75 : x97_60 = true
            ·subst c75
             have H1 : (some false) = some r := by rw [if_pos rfl] at H; exact H
             clear H
             have H := H1
             clear H1
             rw [HRT.out] at H
             exact absurd H (by simp)
            ·replace c75 := Bool.eq_false_iff.mpr c75
             subst c75
             have H1 : ((laws_heldInt64S.f kj60 t1057 1).bind fun t1068 => (if t1068 < 0 then (some false) else (if t1068 = t1056 then (some true) else (some false)))) = some r := by rw [if_neg (show ¬ (false = true) by decide)] at H; exact H
             clear H
             have H := H1
             clear H1
             replace H := Option.bind_eq_some_iff.mp H
             obtain ⟨t1068, A760, H⟩ := H
             replace H : (if t1068 < 0 then (some false) else (if t1068 = t1056 then (some true) else (some false))) = some r := H
             have A76 := zA A760
             clear A760
             by_cases c77 : t1068 < 0
             rotate_left
             ·rw [if_neg c77] at H
              have c77b0 : decide (t1068 < 0) = false := decide_eq_false c77
              clear c77
              by_cases c78 : t1068 = t1056
              rotate_left
              ·rw [if_neg c78] at H
               have c78b0 : (t1068 == t1056) = false := beq_eq_false_iff_ne.mpr c78
               have c78b1 : (t1068 != t1056) = true := bne_iff_ne.mpr c78
               rw [HRT.out] at H
               exact absurd H (by simp)
              rw [if_pos c78] at H
              have c78b0 : (t1068 == t1056) = true := beq_iff_eq.mpr c78
              have c78b1 : (t1068 != t1056) = false := bne_eq_false_iff_eq.mpr c78
              clear c78
              obtain rfl := Option.some.inj H
              go_wp2_with (first | ((with_reducible refine gate_callee (f := 40) rfl ?_); refine gL (some 100) Try.func40 #[.slice Ao62 t1057.length co62, .int .i64 1] ?_; (with_reducible refine (laws_heldInt64S.calls kj60 _ _ t1057 1 t1068 _ ?side1 ?side2 A76.out).mono ?_); (case side1 => exact uC ((Kd.R_reads' HO_11.out).2.2)); (case side2 => exact (Kd.R_reads' HO_11.out).2.1); rintro e w' ⟨rfl, ⟨nd, rfl⟩⟩; refine ⟨_, rfl, ?_⟩))
              go_ret
              exact ⟨by first | rfl | (simp [errW_none, errW_some] <;> rfl) | (simp [*, errW_none, errW_some] <;> rfl), uH HB.out⟩
             rw [if_pos c77] at H
             have c77b0 : decide (t1068 < 0) = true := decide_eq_true c77
             clear c77
             rw [HRT.out] at H
             exact absurd H (by simp)
         rw [if_pos c57] at H
         have c57b0 : decide (t1058 < 0) = true := decide_eq_true c57
         clear c57
         rw [HRT.out] at H
         exact absurd H (by simp)
     ·replace c37 := Bool.eq_false_iff.mpr c37
      subst c37
      have H1 : (some false) = some r := by rw [if_neg (show ¬ (false = true) by decide)] at H; exact H
      clear H
      have H := H1
      clear H1
      rw [HRT.out] at H
      exact absurd H (by simp)

 rw [if_pos c5] at H
 have c5b0 : decide (t1029 < 0) = true := decide_eq_true c5
 clear c5
 obtain rfl := Option.some.inj H
 go_enter Try.func13, Try.ntmps13
 go_wp2_with (first | ((with_reducible refine gate_dst (N := 3) rfl ?_); refine bx 3 #[.int .i64 a0_0, .slice A0_1 l0_1.length c0_1] 34 ?_; intro gb1028 hg w6 hbox hb; have BK1028 := zA (hbox); have GW1028 := gq HB hg; have GE1028 := gq HB hg; replace HB := xH HB hb; have := geI GE1028; clear hb hbox hg; have hcz7_0 := bc BK1028 0; have hcz7_1 := bc BK1028 1; have hfz7_0 := bf BK1028 0; have hfz7_1 := bf BK1028 1) | ((with_reducible refine gate_callee (f := 22) rfl ?_); refine gL (some 20) Try.func22 #[.agg #[.int .i64 a0_0, .slice A0_1 l0_1.length c0_1], .int .i64 1048576] ?_; (with_reducible refine (laws_szMoments.calls a0_0 _ _ l0_1 1048576 t1029 _ ?side1 ?side2 A4.out).mono ?_); (case side1 => exact uC ((Kd.C_below HR0_1.out HB.out))); (case side2 => exact HC0_1.out); rintro e w8 ⟨rfl, hb⟩; refine ⟨_, rfl, ?_⟩; replace BK1028 := xB BK1028 hb; replace HB := xH HB hb; (try clear hb); (try clear hb2); (try clear hk); (try clear hi)))
 go_ret
 exact ⟨by first | rfl | (simp [errW_none, errW_some] <;> rfl) | (simp [*, errW_none, errW_some] <;> rfl), uH HB.out⟩
/-- THE ONE PURE STATEMENT of laws_FnExactKernelOf: yours. -/
def laws_FnExactKernelOf.Pure : Prop := ∀ (a0_0 : Int) (l0_1 : List Int) (a1 : Int) (a2 : Int), (Lit.int .i64 a0_0).wf = true → l0_1.length ≤ maxLen → (∀ x ∈ l0_1, (Lit.int .i64 x).wf = true) → (Lit.int .i64 a1).wf = true → (Lit.int .i64 a2).wf = true → ∃ k, laws_FnExactKernelOf.f k a0_0 l0_1 a1 a2 = some true
theorem laws_FnExactKernelOf.walk (P : laws_FnExactKernelOf.Pure) (a0_0 : Int) (a0_1 : Option Addr) (len0_1 cap0_1 : Nat) (z0_1 : List Int) (a1 : Int) (a2 : Int) (w : World) (w0_0 : (Lit.int .i64 a0_0).wf = true) (w0_1 : (a0_1 = none ∧ len0_1 = 0 ∧ cap0_1 = 0 ∧ z0_1 = []) ∨ ∃ x, a0_1 = some x ∧ len0_1 ≤ cap0_1 ∧ cap0_1 ≤ maxLen ∧ z0_1.length = cap0_1 ∧ (∀ i, i < z0_1.length → w.cell? (x.add i) = some (.int .i64 (z0_1.getD i 0))) ∧ ∀ n ∈ z0_1, (Lit.int .i64 n).wf = true) (w1 : (Lit.int .i64 a1).wf = true) (w2 : (Lit.int .i64 a2).wf = true) :
  Calls Try.prog 13 #[.agg #[.int .i64 a0_0, .slice a0_1 len0_1 cap0_1], .int .i64 a1, .int .i64 a2] w fun e w' => e = .returned (.bool true) ∧ Below w.heap.size w w' := by
 obtain ⟨l0_1, rfl, hr0_1, hm0_1, hw0_1, hc0_1⟩ := ReadsInt.ofRowC w0_1
 obtain ⟨k, h⟩ := P a0_0 l0_1 a1 a2 w0_0 hm0_1 hw0_1 w1 w2
 refine (laws_FnExactKernelOf.calls k a0_0 _ _ l0_1 a1 a2 true rfl w (Kd.C_of_reads (d := (0 : Int)) (h1 := fun _ => rfl) hr0_1) hc0_1 h).mono ?_
 rintro e w' ⟨rfl, hd⟩
 exact ⟨rfl, hd⟩

end Go.Proofs.Ytfbnkebgdmfcfaa.Pr
