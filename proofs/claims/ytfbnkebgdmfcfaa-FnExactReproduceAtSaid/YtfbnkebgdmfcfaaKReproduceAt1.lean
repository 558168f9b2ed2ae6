/- Texts of this session in one: what functions of the program compute, and plain facts of it, under the conditions that each theorem names. -/
import Derived.Test.YtfbnkebgdmfcfaaKFimpldegree
import Derived.Test.YtfbnkebgdmfcfaaKC01
import Derived.Test.YtfbnkebgdmfcfaaKC02
import Derived.Test.YtfbnkebgdmfcfaaKC03
import Derived.Test.YtfbnkebgdmfcfaaKC04
import Derived.Test.YtfbnkebgdmfcfaaKC05
import Derived.Test.YtfbnkebgdmfcfaaKC31
import Derived.Test.YtfbnkebgdmfcfaaKC32
namespace Go.Proofs.Ytfbnkebgdmfcfaa.Pr
open Go.RowKit Go.Proofs.YtfbnkebgdmfcfaaW.PrintWords Go.Proofs.YtfbnkebgdmfcfaaW.PrintLast Go.Proofs.YtfbnkebgdmfcfaaW.PrintMore
attribute [local go_sem] max2_int min2_int max_two min_two max_three min_three max_four min_four   -- for this text's walks alone
set_option linter.unusedVariables false
set_option linter.unusedSimpArgs false
/-! ### impl_ReproduceAt_1: function 114 -/
def impl_ReproduceAt_1.f (l0_0 : List Int) (a1_0 : Int) : Option (Bool) := (impl_degree.f l0_0).bind fun t1031 => (some (decide (t1031 ≤ a1_0)))
set_option maxHeartbeats 8000000 in
set_option maxRecDepth 100000 in
theorem impl_ReproduceAt_1.calls (gc0 : Nat) (A0_0 : Option Addr) (c0_0 : Nat) (l0_0 : List Int) (gc1 : Nat) (a1_0 : Int) (r : Bool) (w : World) (hb0 : w.heap[gc0]? = some (.cells #[.slice A0_0 l0_0.length c0_0] 22 (0, 0))) (hr0_0 : Kd.C (Kd.int .i64) w A0_0 l0_0.length l0_0) (hc0_0 : l0_0.length ≤ c0_0) (hb1 : w.heap[gc1]? = some (.cells #[.int .i64 a1_0] 2 (0, 0))) (h : impl_ReproduceAt_1.f l0_0 a1_0 = some r) :
  Calls Try.prog 114 #[.pointer (some ⟨gc0, 0, none⟩), .pointer (some ⟨gc1, 0, none⟩)] w fun e w' => e = .returned (.bool r) ∧ Drawn0 w w' := by
 have HR0_0 := zA hr0_0
 have HC0_0 := zA hc0_0
 clear hr0_0 hc0_0
 have BK0 := zA hb0
 clear hb0
 have BK1 := zA hb1
 clear hb1
 have H : ((impl_degree.f l0_0).bind fun t1031 => (some (decide (t1031 ≤ a1_0)))) = some r := h
 clear h
 replace H := Option.bind_eq_some_iff.mp H
 obtain ⟨t1031, A30, H⟩ := H
 replace H : (some (decide (t1031 ≤ a1_0))) = some r := H
 have A3 := zA A30
 clear A30
 obtain rfl := Option.some.inj H
 have hcz4_0 := bc BK0 0
 have hfz4_0 := bf BK0 0
 go_enter Try.func114, Try.ntmps114
 go_wp2_with (first | (go_at_call 104; (with_reducible refine (impl_degree.calls _ _ l0_0 t1031 _ ?side1 ?side2 A3.out).mono ?_); (case side1 => exact uC HR0_0.out); (case side2 => exact HC0_0.out); rintro e w' ⟨rfl, ⟨nd, rfl⟩⟩; (try first | exact ⟨rfl, _, World.drewN_drewN _ _ _⟩ | exact ⟨rfl, _, Eq.trans (World.drewN_drewN _ _ _) (congrArg (World.drewN _) (Nat.add_assoc _ _ _))⟩); have hcz5_0 := bc BK1 0; have hfz5_0 := bf BK1 0))
 repeat (go_quiet (first | (go_at_call 104; (with_reducible refine (impl_degree.calls _ _ l0_0 t1031 _ ?side1 ?side2 A3.out).mono ?_); (case side1 => exact uC HR0_0.out); (case side2 => exact HC0_0.out); rintro e w' ⟨rfl, ⟨nd, rfl⟩⟩; (try first | exact ⟨rfl, _, World.drewN_drewN _ _ _⟩ | exact ⟨rfl, _, Eq.trans (World.drewN_drewN _ _ _) (congrArg (World.drewN _) (Nat.add_assoc _ _ _))⟩); have hcz5_0 := bc BK1 0; have hfz5_0 := bf BK1 0)); try go_wp2_with (first | (go_at_call 104; (with_reducible refine (impl_degree.calls _ _ l0_0 t1031 _ ?side1 ?side2 A3.out).mono ?_); (case side1 => exact uC HR0_0.out); (case side2 => exact HC0_0.out); rintro e w' ⟨rfl, ⟨nd, rfl⟩⟩; (try first | exact ⟨rfl, _, World.drewN_drewN _ _ _⟩ | exact ⟨rfl, _, Eq.trans (World.drewN_drewN _ _ _) (congrArg (World.drewN _) (Nat.add_assoc _ _ _))⟩); have hcz5_0 := bc BK1 0; have hfz5_0 := bf BK1 0)))
 go_ret
 exact ⟨by first | rfl | (simp; done) | (simp [*]; done), by repeat (first | exact Drawn0.refl _ | apply Drawn0.step)⟩
/-! ### impl_ReproduceAt: function 54 -/
def impl_ReproduceAt.f (k : Nat) (a0_0 : Int) (l0_1 : List Int) (a1 : Int) (l2 : List Int) (a3 : Int) : Option (Int × Int) := (impl_ReproduceAt_1.f l2 a1).bind fun t1084 => ((impl_kernelOf.f k a0_0 l0_1 a1 a3 t1084 (([l2] : List (List Int)))).bind fun bt1088 => (if bt1088.2 = 0 then ((impl_Moments_field.f a0_0 l0_1).bind fun t1092 => ((impl_field_product.f k t1092 bt1088.1 l2).bind fun t1093 => ((impl_Moments_apply.f k a0_0 l0_1 t1093).bind fun t1096 => (some (t1096, 0))))) else (some (0, bt1088.2))))
def impl_ReproduceAt.T4 : Bool × List (List Nat × List Nat) := (true, [([], []), ([], []), ([1], [1]), ([], []), ([], []), ([2, 3, 4, 2], [2, 3, 4]), ([0, 5, 5], [0, 5]), ([6, 6, 0, 1, 2, 3, 4, 5, 6], [6]), ([7, 0, 1, 2, 3, 4, 5, 6, 7], [])])
def impl_ReproduceAt.B4 : List Nat := [0, 0, 2, 0, 0, 30, 63, 127, 255]
theorem impl_ReproduceAt.tab4 : rtab .any (opsOf Try.f54 4) = impl_ReproduceAt.T4 := by kernel_rfl
theorem impl_ReproduceAt.bits4 : waitsOk impl_ReproduceAt.T4.2 impl_ReproduceAt.B4 = true := by kernel_rfl
set_option maxHeartbeats 8000000 in
set_option maxRecDepth 100000 in
theorem impl_ReproduceAt.calls (k : Nat) (a0_0 : Int) (A0_1 : Option Addr) (c0_1 : Nat) (l0_1 : List Int) (a1 : Int) (P2_ : Nat → Prop) (A2 : Option Addr) (c2 : Nat) (l2 : List Int) (a3 : Int) (r1 : Int) (r2 : Int) (w : World) (hr0_1 : Kd.C (Kd.int .i64) w A0_1 l0_1.length l0_1) (hc0_1 : l0_1.length ≤ c0_1) (hs2 : Kd.V (Kd.int .i64) 2 w w.heap.size (fun k_ => P2_ k_) (.slice A2 l2.length c2) l2) (h : impl_ReproduceAt.f k a0_0 l0_1 a1 l2 a3 = some (r1, r2)) :
  Calls Try.prog 54 #[.agg #[.int .i64 a0_0, .slice A0_1 l0_1.length c0_1], .int .i64 a1, .slice A2 l2.length c2, .int .i64 a3] w fun e w' => e = .returned (.tuple #[.int .i64 r1, .int .i64 r2]) ∧ Below w.heap.size w w' := by
 have hu40 := Try.underlying40
 have hmf : ∀ (fn_ : Fn) (first_ cap_ : Array Value) (w_ : World), (Instr.makeFunc fn_ first_ cap_).run Try.prog w_ = .ok (.func fn_ first_ cap_) w_ := fun _ _ _ _ => rfl
 have HR0_1 := zA hr0_1
 have HC0_1 := zA hc0_1
 clear hr0_1 hc0_1
 have HO2 := zA (show Kd.V (Kd.int .i64) 2 w w.heap.size (fun k_ => (P2_ k_ ∨ w.heap.size ≤ k_)) (.slice A2 l2.length c2) l2 from Kd.V_mono hs2 (fun k_ hk => .inl hk))
 have HB := zA (Below.refl w.heap.size w)
 have H : ((impl_ReproduceAt_1.f l2 a1).bind fun t1084 => ((impl_kernelOf.f k a0_0 l0_1 a1 a3 t1084 (([l2] : List (List Int)))).bind fun bt1088 => (if bt1088.2 = 0 then ((impl_Moments_field.f a0_0 l0_1).bind fun t1092 => ((impl_field_product.f k t1092 bt1088.1 l2).bind fun t1093 => ((impl_Moments_apply.f k a0_0 l0_1 t1093).bind fun t1096 => (some (t1096, 0))))) else (some (0, bt1088.2))))) = some (r1, r2) := h
 clear h
 replace H := Option.bind_eq_some_iff.mp H
 obtain ⟨t1084, A50, H⟩ := H
 replace H : ((impl_kernelOf.f k a0_0 l0_1 a1 a3 t1084 (([l2] : List (List Int)))).bind fun bt1088 => (if bt1088.2 = 0 then ((impl_Moments_field.f a0_0 l0_1).bind fun t1092 => ((impl_field_product.f k t1092 bt1088.1 l2).bind fun t1093 => ((impl_Moments_apply.f k a0_0 l0_1 t1093).bind fun t1096 => (some (t1096, 0))))) else (some (0, bt1088.2)))) = some (r1, r2) := H
 have A5 := zA A50
 clear A50
 obtain ⟨y1085, hy1085⟩ : ∃ y_ : List (List Int), y_ = (([l2] : List (List Int))) := ⟨_, rfl⟩
 replace H : ((impl_kernelOf.f k a0_0 l0_1 a1 a3 t1084 y1085).bind fun bt1088 => (if bt1088.2 = 0 then ((impl_Moments_field.f a0_0 l0_1).bind fun t1092 => ((impl_field_product.f k t1092 bt1088.1 l2).bind fun t1093 => ((impl_Moments_apply.f k a0_0 l0_1 t1093).bind fun t1096 => (some (t1096, 0))))) else (some (0, bt1088.2)))) = some (r1, r2) := by first | (rw [hy1085]; exact H) | exact H
 have Ny1085 := zA hy1085
 clear hy1085
 replace H := Option.bind_eq_some_iff.mp H
 obtain ⟨⟨t1088, t1091⟩, A60, H⟩ := H
 replace H : (if t1091 = 0 then ((impl_Moments_field.f a0_0 l0_1).bind fun t1092 => ((impl_field_product.f k t1092 t1088 l2).bind fun t1093 => ((impl_Moments_apply.f k a0_0 l0_1 t1093).bind fun t1096 => (some (t1096, 0))))) else (some (0, t1091))) = some (r1, r2) := H
 have A6 := zA A60
 clear A60
 by_cases c7 : t1091 = 0
 rotate_left
 ·rw [if_neg c7] at H
  have c7b0 : (t1091 == 0) = false := beq_eq_false_iff_ne.mpr c7
  have c7b1 : (t1091 != 0) = true := bne_iff_ne.mpr c7
  simp only [Option.some.injEq, Prod.mk.injEq] at H
  obtain ⟨rfl, rfl⟩ := H
  go_enter Try.func54, Try.ntmps54
  go_wp2_with (first | ((with_reducible refine gate_dst (N := 4) rfl ?_); refine bx 4 #[.int .i64 a0_0, .slice A0_1 l0_1.length c0_1] 40 ?_; intro gb1081 hg w30 hbox hb; replace HO2 := zA (Kd.V_below (Kd.V_elderB (by (with_reducible repeat (first | apply Kd.V_alloc | apply Kd.V_drewN | apply Kd.V_drew)); exact HO2.out) gb1081 (Nat.le_of_eq hg.symm)) hb); have BK1081 := zA (hbox); have GW1081 := gq HB hg; have GE1081 := gq HB hg; replace HB := xH HB hb; have := geI GE1081; clear hb hbox hg) | ((with_reducible refine gate_dst (N := 5) rfl ?_); refine bx 5 #[.int .i64 a1] 2 ?_; intro gb1082 hg w31 hbox hb; replace HO2 := zA (Kd.V_below (Kd.V_elderB (by (with_reducible repeat (first | apply Kd.V_alloc | apply Kd.V_drewN | apply Kd.V_drew)); exact HO2.out) gb1082 (Nat.le_of_eq hg.symm)) hb); have BK1082 := zA (hbox); have GW1082 := gq HB hg; have GE1082 := gq HB hg; replace HB := xH HB hb; have NB1081_1082 := zA ((by rw [hg]; exact neL BK1081 : gb1081 ≠ gb1082)); have NB1082_1081 := zA ((by rw [hg]; exact neG BK1081 : gb1082 ≠ gb1081)); replace BK1081 := xB BK1081 hb; have := geI GE1082; clear hb hbox hg) | ((with_reducible refine gate_dst (N := 6) rfl ?_); refine bx 6 #[.slice A2 l2.length c2] 22 ?_; intro gb1083 hg w32 hbox hb; replace HO2 := zA (Kd.V_below (Kd.V_elderB (by (with_reducible repeat (first | apply Kd.V_alloc | apply Kd.V_drewN | apply Kd.V_drew)); exact HO2.out) gb1083 (Nat.le_of_eq hg.symm)) hb); have BK1083 := zA (hbox); have GW1083 := gq HB hg; have GE1083 := gq HB hg; replace HB := xH HB hb; have NB1081_1083 := zA ((by rw [hg]; exact neL BK1081 : gb1081 ≠ gb1083)); have NB1083_1081 := zA ((by rw [hg]; exact neG BK1081 : gb1083 ≠ gb1081)); replace BK1081 := xB BK1081 hb; have NB1082_1083 := zA ((by rw [hg]; exact neL BK1082 : gb1082 ≠ gb1083)); have NB1083_1082 := zA ((by rw [hg]; exact neG BK1082 : gb1083 ≠ gb1082)); replace BK1082 := xB BK1082 hb; have := geI GE1083; clear hb hbox hg; have hnb33 := NB1081_1082.out; have hnc33 := NB1082_1081.out; have hnb34 := NB1081_1083.out; have hnc34 := NB1083_1081.out; have hcz35_0 := bc BK1081 0; have hcz35_1 := bc BK1081 1; have hfz35_0 := bf BK1081 0; have hfz35_1 := bf BK1081 1; have hnb36 := NB1082_1083.out; have hnc36 := NB1083_1082.out; have hcz37_0 := bc BK1082 0; have hfz37_0 := bf BK1082 0; have hcz38_0 := bc BK1083 0; have hfz38_0 := bf BK1083 0) | ((with_reducible refine gate_dst (N := 18) rfl ?_); refine Kd.N_lit (Kd.slice 2 (Kd.int .i64)) _ 22 ?hg (N' := 18) ?hd (xs := ([l2] : List (List Int))) (inner := [.slice A2 l2.length c2]) (ok := (fun k_ => (P2_ k_ ∨ w.heap.size ≤ k_) ∧ k_ ≠ gb1081 ∧ k_ ≠ gb1082 ∧ k_ ≠ gb1083)) (okp := (fun k_ => (P2_ k_ ∨ w.heap.size ≤ k_) ∧ k_ ≠ gb1081 ∧ k_ ≠ gb1082 ∧ k_ ≠ gb1083)) ?hr ?hp (fun _ hk => hk) ((show ∀ k_, w32.heap.size ≤ k_ → (fun k_ => (P2_ k_ ∨ w.heap.size ≤ k_) ∧ k_ ≠ gb1081 ∧ k_ ≠ gb1082 ∧ k_ ≠ gb1083) k_ from fun k_ hk => ⟨(.inr (Nat.le_trans (below_size (uH HB.out)) hk)), Kd.freshB (g := gb1081) (o := .cells #[.int .i64 a0_0, .slice A0_1 l0_1.length c0_1] 40 (0, 0)) (uB BK1081.out) k_ hk, Kd.freshB (g := gb1082) (o := .cells #[.int .i64 a1] 2 (0, 0)) (uB BK1082.out) k_ hk, Kd.freshB (g := gb1083) (o := .cells #[.slice A2 l2.length c2] 22 (0, 0)) (uB BK1083.out) k_ hk⟩) _ (Nat.le_refl _)) (Below.refl _ _) (Nat.le_refl _) (by simp) ?_; (case hd => rfl); (case hg => rfl); (case hr => first | (go_simp; done) | (go_simp; rfl)); (case hp => exact (Reps.one (show Kd.FK (Kd.slice 2 (Kd.int .i64)) _ _ l2 [.slice A2 l2.length c2] from (Kd.FK_slice_mk (Kd.V_reads' (Kd.V_mono (ok' := (fun k_ => (P2_ k_ ∨ w.heap.size ≤ k_) ∧ k_ ≠ gb1081 ∧ k_ ≠ gb1082 ∧ k_ ≠ gb1083)) (HO2.out) (fun k_ hk => ⟨hk.1.1.1, ⟨hk.1.1.2, ⟨hk.1.2, hk.2⟩⟩⟩))).2.1 (Kd.V_F (Kd.V_mono (ok' := (fun k_ => (P2_ k_ ∨ w.heap.size ≤ k_) ∧ k_ ≠ gb1081 ∧ k_ ≠ gb1082 ∧ k_ ≠ gb1083)) (HO2.out) (fun k_ hk => ⟨hk.1.1.1, ⟨hk.1.1.2, ⟨hk.1.2, hk.2⟩⟩⟩))))) (Reps.none _ _))); intro v1086 w39 ho40 hb hg_ hnew_; clear hg_ hnew_; (first | rw [← Ny1085.out] at ho40 | (simp only [Int.reduceToNat] at ho40; rw [← Ny1085.out] at ho40)); replace HO2 := zA (Kd.V_elder' (by (with_reducible repeat (first | apply Kd.V_alloc | apply Kd.V_drewN | apply Kd.V_drew)); exact HO2.out) (Kd.N_base ho40) hb); have HO1087 := zA (Kd.N_lower ho40 (below_size (uH HB.out))); replace BK1081 := xB BK1081 hb; replace BK1082 := xB BK1082 hb; replace BK1083 := xB BK1083 hb; replace HB := xH HB hb; clear hb ho40; obtain ⟨Ao41, co41, eo41⟩ := Kd.N_slice HO1087.out; subst eo41) | ((with_reducible refine gate_callee (f := 108) rfl ?_); refine gL (some 19) Try.func108 #[.agg #[.int .i64 a0_0, .slice A0_1 l0_1.length c0_1], .int .i64 a1, .int .i64 a3, (.func (.func 114) #[] #[.pointer (some ⟨gb1083, 0, none⟩), .pointer (some ⟨gb1082, 0, none⟩)]), .slice Ao41 y1085.length co41] ?_; (with_reducible refine (impl_kernelOf.calls k a0_0 _ _ l0_1 a1 a3 _ t1084 _ _ y1085 t1088 t1091 _ ?side1 ?side2 ?side3 ?side4 ?side5 A6.out).mono ?_); (case side1 => exact uC ((Kd.C_below HR0_1.out HB.out))); (case side2 => exact HC0_1.out); (case side3 => exact FnB.of Try.func114 (by kernel_rfl) rfl (fun W_ hW_ => calls_of_args (args' := #[.pointer (some ⟨gb1083, 0, none⟩), .pointer (some ⟨gb1082, 0, none⟩)]) (by simp) ((impl_ReproduceAt_1.calls _ _ _ l2 _ a1 _ W_ (blk_below (g := gb1083) (o := .cells #[.slice A2 l2.length c2] 22 (0, 0)) (uB BK1083.out) hW_) (Kd.C_below (by exact uC ((Kd.V_reads' HO2.out).2.2)) hW_) (by exact (Kd.V_reads' HO2.out).2.1) (blk_below (g := gb1082) (o := .cells #[.int .i64 a1] 2 (0, 0)) (uB BK1082.out) hW_) A5.out).mono fun e_ W2_ h_ => ⟨h_.1, h_.2.below⟩))); (case side4 => exact uC ((Kd.N_reads' HO1087.out).2.2)); (case side5 => exact (Kd.N_reads' HO1087.out).2.1); rintro e w42 ⟨v1089, rfl, ho0, hb⟩; refine ⟨_, rfl, ?_⟩; replace HO2 := zA (Kd.V_elder' (by (with_reducible repeat (first | apply Kd.V_alloc | apply Kd.V_drewN | apply Kd.V_drew)); exact HO2.out) (Kd.R_base ho0) hb); replace HO1087 := zA (Kd.N_elder' (by (with_reducible repeat (first | apply Kd.N_alloc | apply Kd.N_drewN | apply Kd.N_drew)); exact HO1087.out) (Kd.R_base ho0) hb); have HO1090 := zA (Kd.R_lower (Kd.R_newB (Kd.R_newM (M := fun k_ => (w.heap.size ≤ k_)) ho0 (below_size (uH HB.out)) (fun k_ h_ => h_)) (g := gb1082) (o := .cells #[.int .i64 a1] 2 (0, 0)) (uB BK1082.out)) (below_size (uH HB.out))); replace BK1081 := xB BK1081 hb; replace BK1082 := xB BK1082 hb; replace BK1083 := xB BK1083 hb; replace HB := xH HB hb; (try clear hb); (try clear hb2); (try clear hk); (try clear hi); (try clear ho0)))
  go_ret2
  exact ⟨by first | rfl | (simp [errW_none, errW_some] <;> rfl) | (simp [*, errW_none, errW_some] <;> rfl), uH HB.out⟩

 rw [if_pos c7] at H
 have c7b0 : (t1091 == 0) = true := beq_iff_eq.mpr c7
 have c7b1 : (t1091 != 0) = false := bne_eq_false_iff_eq.mpr c7
 clear c7
 replace H := Option.bind_eq_some_iff.mp H
 obtain ⟨t1092, A80, H⟩ := H
 replace H : ((impl_field_product.f k t1092 t1088 l2).bind fun t1093 => ((impl_Moments_apply.f k a0_0 l0_1 t1093).bind fun t1096 => (some (t1096, 0)))) = some (r1, r2) := H
 have A8 := zA A80
 clear A80
 replace H := Option.bind_eq_some_iff.mp H
 obtain ⟨t1093, A90, H⟩ := H
 replace H : ((impl_Moments_apply.f k a0_0 l0_1 t1093).bind fun t1096 => (some (t1096, 0))) = some (r1, r2) := H
 have A9 := zA A90
 clear A90
 replace H := Option.bind_eq_some_iff.mp H
 obtain ⟨t1096, A100, H⟩ := H
 replace H : (some (t1096, 0)) = some (r1, r2) := H
 have A10 := zA A100
 clear A100
 simp only [Option.some.injEq, Prod.mk.injEq] at H
 obtain ⟨rfl, rfl⟩ := H
 go_enter Try.func54, Try.ntmps54
 try go_wp2_with (first | ((with_reducible refine gate_dst (N := 4) rfl ?_); refine bx 4 #[.int .i64 a0_0, .slice A0_1 l0_1.length c0_1] 40 ?_; intro gb1081 hg w11 hbox hb; replace HO2 := zA (Kd.V_below (Kd.V_elderB (by (with_reducible repeat (first | apply Kd.V_alloc | apply Kd.V_drewN | apply Kd.V_drew)); exact HO2.out) gb1081 (Nat.le_of_eq hg.symm)) hb); have BK1081 := zA (hbox); have GW1081 := gq HB hg; have GE1081 := gq HB hg; replace HB := xH HB hb; have := geI GE1081; clear hb hbox hg) | ((with_reducible refine gate_dst (N := 5) rfl ?_); refine bx 5 #[.int .i64 a1] 2 ?_; intro gb1082 hg w12 hbox hb; replace HO2 := zA (Kd.V_below (Kd.V_elderB (by (with_reducible repeat (first | apply Kd.V_alloc | apply Kd.V_drewN | apply Kd.V_drew)); exact HO2.out) gb1082 (Nat.le_of_eq hg.symm)) hb); have BK1082 := zA (hbox); have GW1082 := gq HB hg; have GE1082 := gq HB hg; replace HB := xH HB hb; have NB1081_1082 := zA ((by rw [hg]; exact neL BK1081 : gb1081 ≠ gb1082)); have NB1082_1081 := zA ((by rw [hg]; exact neG BK1081 : gb1082 ≠ gb1081)); replace BK1081 := xB BK1081 hb; have := geI GE1082; clear hb hbox hg) | ((with_reducible refine gate_dst (N := 6) rfl ?_); refine bx 6 #[.slice A2 l2.length c2] 22 ?_; intro gb1083 hg w13 hbox hb; replace HO2 := zA (Kd.V_below (Kd.V_elderB (by (with_reducible repeat (first | apply Kd.V_alloc | apply Kd.V_drewN | apply Kd.V_drew)); exact HO2.out) gb1083 (Nat.le_of_eq hg.symm)) hb); have BK1083 := zA (hbox); have GW1083 := gq HB hg; have GE1083 := gq HB hg; replace HB := xH HB hb; have NB1081_1083 := zA ((by rw [hg]; exact neL BK1081 : gb1081 ≠ gb1083)); have NB1083_1081 := zA ((by rw [hg]; exact neG BK1081 : gb1083 ≠ gb1081)); replace BK1081 := xB BK1081 hb; have NB1082_1083 := zA ((by rw [hg]; exact neL BK1082 : gb1082 ≠ gb1083)); have NB1083_1082 := zA ((by rw [hg]; exact neG BK1082 : gb1083 ≠ gb1082)); replace BK1082 := xB BK1082 hb; have := geI GE1083; clear hb hbox hg; have hnb14 := NB1081_1082.out; have hnc14 := NB1082_1081.out; have hnb15 := NB1081_1083.out; have hnc15 := NB1083_1081.out; have hcz16_0 := bc BK1081 0; have hcz16_1 := bc BK1081 1; have hfz16_0 := bf BK1081 0; have hfz16_1 := bf BK1081 1; have hnb17 := NB1082_1083.out; have hnc17 := NB1083_1082.out; have hcz18_0 := bc BK1082 0; have hfz18_0 := bf BK1082 0; have hcz19_0 := bc BK1083 0; have hfz19_0 := bf BK1083 0) | ((with_reducible refine gate_dst (N := 18) rfl ?_); refine Kd.N_lit (Kd.slice 2 (Kd.int .i64)) _ 22 ?hg (N' := 18) ?hd (xs := ([l2] : List (List Int))) (inner := [.slice A2 l2.length c2]) (ok := (fun k_ => (P2_ k_ ∨ w.heap.size ≤ k_) ∧ k_ ≠ gb1081 ∧ k_ ≠ gb1082 ∧ k_ ≠ gb1083)) (okp := (fun k_ => (P2_ k_ ∨ w.heap.size ≤ k_) ∧ k_ ≠ gb1081 ∧ k_ ≠ gb1082 ∧ k_ ≠ gb1083)) ?hr ?hp (fun _ hk => hk) ((show ∀ k_, w13.heap.size ≤ k_ → (fun k_ => (P2_ k_ ∨ w.heap.size ≤ k_) ∧ k_ ≠ gb1081 ∧ k_ ≠ gb1082 ∧ k_ ≠ gb1083) k_ from fun k_ hk => ⟨(.inr (Nat.le_trans (below_size (uH HB.out)) hk)), Kd.freshB (g := gb1081) (o := .cells #[.int .i64 a0_0, .slice A0_1 l0_1.length c0_1] 40 (0, 0)) (uB BK1081.out) k_ hk, Kd.freshB (g := gb1082) (o := .cells #[.int .i64 a1] 2 (0, 0)) (uB BK1082.out) k_ hk, Kd.freshB (g := gb1083) (o := .cells #[.slice A2 l2.length c2] 22 (0, 0)) (uB BK1083.out) k_ hk⟩) _ (Nat.le_refl _)) (Below.refl _ _) (Nat.le_refl _) (by simp) ?_; (case hd => rfl); (case hg => rfl); (case hr => first | (go_simp; done) | (go_simp; rfl)); (case hp => exact (Reps.one (show Kd.FK (Kd.slice 2 (Kd.int .i64)) _ _ l2 [.slice A2 l2.length c2] from (Kd.FK_slice_mk (Kd.V_reads' (Kd.V_mono (ok' := (fun k_ => (P2_ k_ ∨ w.heap.size ≤ k_) ∧ k_ ≠ gb1081 ∧ k_ ≠ gb1082 ∧ k_ ≠ gb1083)) (HO2.out) (fun k_ hk => ⟨hk.1.1.1, ⟨hk.1.1.2, ⟨hk.1.2, hk.2⟩⟩⟩))).2.1 (Kd.V_F (Kd.V_mono (ok' := (fun k_ => (P2_ k_ ∨ w.heap.size ≤ k_) ∧ k_ ≠ gb1081 ∧ k_ ≠ gb1082 ∧ k_ ≠ gb1083)) (HO2.out) (fun k_ hk => ⟨hk.1.1.1, ⟨hk.1.1.2, ⟨hk.1.2, hk.2⟩⟩⟩))))) (Reps.none _ _))); intro v1086 w20 ho21 hb hg_ hnew_; clear hg_ hnew_; (first | rw [← Ny1085.out] at ho21 | (simp only [Int.reduceToNat] at ho21; rw [← Ny1085.out] at ho21)); replace HO2 := zA (Kd.V_elder' (by (with_reducible repeat (first | apply Kd.V_alloc | apply Kd.V_drewN | apply Kd.V_drew)); exact HO2.out) (Kd.N_base ho21) hb); have HO1087 := zA (Kd.N_lower ho21 (below_size (uH HB.out))); replace BK1081 := xB BK1081 hb; replace BK1082 := xB BK1082 hb; replace BK1083 := xB BK1083 hb; replace HB := xH HB hb; clear hb ho21; obtain ⟨Ao22, co22, eo22⟩ := Kd.N_slice HO1087.out; subst eo22) | ((with_reducible refine gate_callee (f := 108) rfl ?_); refine gL (some 19) Try.func108 #[.agg #[.int .i64 a0_0, .slice A0_1 l0_1.length c0_1], .int .i64 a1, .int .i64 a3, (.func (.func 114) #[] #[.pointer (some ⟨gb1083, 0, none⟩), .pointer (some ⟨gb1082, 0, none⟩)]), .slice Ao22 y1085.length co22] ?_; (with_reducible refine (impl_kernelOf.calls k a0_0 _ _ l0_1 a1 a3 _ t1084 _ _ y1085 t1088 t1091 _ ?side1 ?side2 ?side3 ?side4 ?side5 A6.out).mono ?_); (case side1 => exact uC ((Kd.C_below HR0_1.out HB.out))); (case side2 => exact HC0_1.out); (case side3 => exact FnB.of Try.func114 (by kernel_rfl) rfl (fun W_ hW_ => calls_of_args (args' := #[.pointer (some ⟨gb1083, 0, none⟩), .pointer (some ⟨gb1082, 0, none⟩)]) (by simp) ((impl_ReproduceAt_1.calls _ _ _ l2 _ a1 _ W_ (blk_below (g := gb1083) (o := .cells #[.slice A2 l2.length c2] 22 (0, 0)) (uB BK1083.out) hW_) (Kd.C_below (by exact uC ((Kd.V_reads' HO2.out).2.2)) hW_) (by exact (Kd.V_reads' HO2.out).2.1) (blk_below (g := gb1082) (o := .cells #[.int .i64 a1] 2 (0, 0)) (uB BK1082.out) hW_) A5.out).mono fun e_ W2_ h_ => ⟨h_.1, h_.2.below⟩))); (case side4 => exact uC ((Kd.N_reads' HO1087.out).2.2)); (case side5 => exact (Kd.N_reads' HO1087.out).2.1); rintro e w23 ⟨v1089, rfl, ho0, hb⟩; refine ⟨_, rfl, ?_⟩; replace HO2 := zA (Kd.V_elder' (by (with_reducible repeat (first | apply Kd.V_alloc | apply Kd.V_drewN | apply Kd.V_drew)); exact HO2.out) (Kd.R_base ho0) hb); replace HO1087 := zA (Kd.N_elder' (by (with_reducible repeat (first | apply Kd.N_alloc | apply Kd.N_drewN | apply Kd.N_drew)); exact HO1087.out) (Kd.R_base ho0) hb); have HO1090 := zA (Kd.R_lower (Kd.R_newB (Kd.R_newM (M := fun k_ => (w.heap.size ≤ k_)) ho0 (below_size (uH HB.out)) (fun k_ h_ => h_)) (g := gb1082) (o := .cells #[.int .i64 a1] 2 (0, 0)) (uB BK1082.out)) (below_size (uH HB.out))); replace BK1081 := xB BK1081 hb; replace BK1082 := xB BK1082 hb; replace BK1083 := xB BK1083 hb; replace HB := xH HB hb; (try clear hb); (try clear hb2); (try clear hk); (try clear hi); (try clear ho0)))
 replace HO2 := zA (Kd.V_drew HO2.out)
 replace HO1087 := zA (Kd.N_drew HO1087.out)
 replace HO1090 := zA (Kd.R_drew HO1090.out)
 replace BK1081 := zA (blk_drew BK1081.out)
 replace BK1082 := zA (blk_drew BK1082.out)
 replace BK1083 := zA (blk_drew BK1083.out)
 replace HB := zA (below_drew1 HB.out)
 refine start_ (n := 9) (S := fun w' => w'.cell? ⟨gb1081, 0, none⟩ = some (.int .i64 a0_0) ∧ w'.cell? ⟨gb1081, 1, none⟩ = some (.slice A0_1 l0_1.length c0_1) ∧ w'.cell? ⟨gb1083, 0, none⟩ = some (.slice A2 l2.length c2)) (ds := []) #[false, false, false, false, false, false, false, false, false] (by kernel_rfl) rfl rfl ⟨bcu BK1081 0, bcu BK1081 1, bcu BK1083 0⟩ (fun hHeld => ?_); refine with_tabW impl_ReproduceAt.tab4 impl_ReproduceAt.bits4 (fun HT_ HW_ => ?_)
 generalize w23.drew = w24 at HO2 HO1087 HO1090 BK1081 BK1082 BK1083 HB hHeld ⊢
 refine pu_ 3 28 (bl 9 8) HT_ ?_
 refine ta_ 0 25 (bl 9 9) HT_ HW_ hHeld ?_
 refine ta_ 1 26 (bl 9 11) HT_ HW_ hHeld ?_
 refine ta_ 4 29 (bl 9 27) HT_ HW_ hHeld ?_
 refine on_ 2 (some 27) (bl 9 31) HT_ (fun K hK => ?_)
 refine gS Try.func75 #[.agg #[.int .i64 a0_0, .slice A0_1 l0_1.length c0_1]] ?_
 with_reducible refine (impl_Moments_field.calls a0_0 _ _ l0_1 t1092 _ ?side1 ?side2 A8.out).mono ?_
 (case side1 => exact uC ((Kd.C_below HR0_1.out HB.out)))
 (case side2 => exact HC0_1.out)
 rintro e w25 ⟨rfl, hb⟩
 refine ⟨_, rfl, ?_⟩
 replace HO2 := zA (Kd.V_below (by (with_reducible repeat (first | apply Kd.V_alloc | apply Kd.V_drewN | apply Kd.V_drew)); exact HO2.out) hb)
 replace HO1087 := zA (Kd.N_below (by (with_reducible repeat (first | apply Kd.N_alloc | apply Kd.N_drewN | apply Kd.N_drew)); exact HO1087.out) hb)
 replace HO1090 := xR HO1090 hb
 replace BK1081 := xB BK1081 hb
 replace BK1082 := xB BK1082 hb
 replace BK1083 := xB BK1083 hb
 replace HB := xH HB hb
 (try clear hb); (try clear hb2); (try clear hk); (try clear hi)
 obtain ⟨Ao26, co26, eo26⟩ := Kd.R_slice HO1090.out
 (first | subst eo26 | (injection eo26 with f1_ f2_ f3_; have f4_ := f1_.symm; have f5_ := f3_.symm; clear f1_ f2_ f3_; subst f4_; subst f5_))
 refine hK.out _ _ ⟨bcu BK1081 0, bcu BK1081 1, bcu BK1083 0⟩ (fun hHeld => ?_)
 clear hK K
 refine no_ 27 ?_
 refine on_ 5 (some 30) (bl 9 63) HT_ (fun K hK => ?_)
 refine gS Try.func89 #[.int .i64 t1092, .slice Ao26 t1088.length co26, .slice A2 l2.length c2] ?_
 with_reducible refine (impl_field_product.calls k t1092 _ _ t1088 _ _ l2 t1093 _ ?side1 ?side2 ?side3 ?side4 A9.out).mono ?_
 (case side1 => exact uC ((Kd.R_reads' HO1090.out).2.2))
 (case side2 => exact (Kd.R_reads' HO1090.out).2.1)
 (case side3 => exact uC ((Kd.V_reads' HO2.out).2.2))
 (case side4 => exact (Kd.V_reads' HO2.out).2.1)
 rintro e w27 ⟨v1094, rfl, ho0, hb⟩
 refine ⟨_, rfl, ?_⟩
 replace HO2 := zA (Kd.V_elder' (by (with_reducible repeat (first | apply Kd.V_alloc | apply Kd.V_drewN | apply Kd.V_drew)); exact HO2.out) (Kd.R_base ho0) hb)
 replace HO1087 := zA (Kd.N_elder' (by (with_reducible repeat (first | apply Kd.N_alloc | apply Kd.N_drewN | apply Kd.N_drew)); exact HO1087.out) (Kd.R_base ho0) hb)
 have HO1095 := zA (Kd.R_lower (Kd.R_newB (Kd.R_new' (Kd.R_newM (M := fun k_ => (w.heap.size ≤ k_)) ho0 (below_size (uH HB.out)) (fun k_ h_ => h_)) (Kd.R_lt (uR HO1090.out))) (g := gb1082) (o := .cells #[.int .i64 a1] 2 (0, 0)) (uB BK1082.out)) (below_size (uH HB.out)))
 replace HO1090 := zA (Kd.R_elder' (uR HO1090.out) (Kd.R_base ho0) hb)
 replace BK1081 := xB BK1081 hb
 replace BK1082 := xB BK1082 hb
 replace BK1083 := xB BK1083 hb
 replace HB := xH HB hb
 (try clear hb); (try clear hb2); (try clear hk); (try clear hi); (try clear ho0)
 obtain ⟨Ao28, co28, eo28⟩ := Kd.R_slice HO1095.out
 (first | subst eo28 | (injection eo28 with f1_ f2_ f3_; have f4_ := f1_.symm; have f5_ := f3_.symm; clear f1_ f2_ f3_; subst f4_; subst f5_))
 refine hK.out _ _ ⟨bcu BK1081 0, bcu BK1081 1, bcu BK1083 0⟩ (fun hHeld => ?_)
 clear hK K
 refine no_ 30 ?_
 refine on_ 6 (some 31) (bl 9 127) HT_ (fun K hK => ?_)
 refine gS Try.func74 #[.agg #[.int .i64 a0_0, .slice A0_1 l0_1.length c0_1], .slice Ao28 t1093.length co28] ?_
 with_reducible refine (impl_Moments_apply.calls k a0_0 _ _ l0_1 _ _ t1093 t1096 _ ?side1 ?side2 ?side3 ?side4 A10.out).mono ?_
 (case side1 => exact uC ((Kd.C_below HR0_1.out HB.out)))
 (case side2 => exact HC0_1.out)
 (case side3 => exact uC ((Kd.R_reads' HO1095.out).2.2))
 (case side4 => exact (Kd.R_reads' HO1095.out).2.1)
 rintro e w29 ⟨rfl, hb⟩
 refine ⟨_, rfl, ?_⟩
 replace HO2 := zA (Kd.V_below (by (with_reducible repeat (first | apply Kd.V_alloc | apply Kd.V_drewN | apply Kd.V_drew)); exact HO2.out) hb)
 replace HO1087 := zA (Kd.N_below (by (with_reducible repeat (first | apply Kd.N_alloc | apply Kd.N_drewN | apply Kd.N_drew)); exact HO1087.out) hb)
 replace HO1090 := xR HO1090 hb
 replace HO1095 := xR HO1095 hb
 replace BK1081 := xB BK1081 hb
 replace BK1082 := xB BK1082 hb
 replace BK1083 := xB BK1083 hb
 replace HB := xH HB hb
 (try clear hb); (try clear hb2); (try clear hk); (try clear hi)
 refine hK.out _ _ ⟨bcu BK1081 0, bcu BK1081 1, bcu BK1083 0⟩ (fun hHeld => ?_)
 clear hK K
 refine no_ 31 ?_
 refine pu_ 7 8 (bl 9 255) HT_ ?_
 refine pu_ 8 9 (bl 9 511) HT_ ?_
 refine done_ (done_of HT_.out (by kernel_rfl)) ?_
 try go_wp2
 go_ret2
 exact ⟨by first | rfl | (simp [errW_none, errW_some] <;> rfl) | (simp [*, errW_none, errW_some] <;> rfl), uH HB.out⟩
/-! ### spec_ReproduceAt: function 53 -/
mutual
def spec_ReproduceAt.j0 : Nat → Int → List Int → Int → Bool → Int → List Int → Option (Int × Int)
 | 0, _, _, _, _, _, _ => none
 | k + 1, x1, x2, x3, x21, x1021000, x1021001 => if x21 = true then (some (0, 1)) else ((spec_l04Kernel.f k x1021000 x1021001 x1 x3).bind fun bt1023 => (if bt1023.2 = 1 then (spec_ReproduceAt.j1 k x2 bt1023.1 bt1023.2 false x1021000 x1021001) else (spec_ReproduceAt.j1 k x2 bt1023.1 bt1023.2 (decide ((x2.length : Int) > (wrap64 (x1 + 1)))) x1021000 x1021001)))
def spec_ReproduceAt.j1 : Nat → List Int → List Int → Int → Bool → Int → List Int → Option (Int × Int)
 | 0, _, _, _, _, _, _ => none
 | k + 1, x2, x10, x11, x37, x1021000, x1021001 => if x37 = true then (spec_ReproduceAt.j2 k x2 x10 2 x1021000 x1021001) else (spec_ReproduceAt.j2 k x2 x10 x11 x1021000 x1021001)
def spec_ReproduceAt.j2 : Nat → List Int → List Int → Int → Int → List Int → Option (Int × Int)
 | 0, _, _, _, _, _ => none
 | k + 1, x2, x10, x11, x1021000, x1021001 => if x11 = 0 then ((spec_l01Times.f k x1021000 x10 x2).bind fun t1027 => ((spec_l02Apply.f k x1021000 x1021001 t1027 0).bind fun t1030 => (some (t1030, 0)))) else (some (0, x11))
end
def spec_ReproduceAt.f (k : Nat) (a0_0 : Int) (l0_1 : List Int) (a1 : Int) (l2 : List Int) (a3 : Int) : Option (Int × Int) := (spec_l02Are.f k a0_0 l0_1).bind fun t1021 => (if t1021 = true then ((spec_l01Poly.f k a0_0 l2).bind fun t1022 => (spec_ReproduceAt.j0 k a1 l2 a3 (!t1022) a0_0 l0_1)) else (spec_ReproduceAt.j0 k a1 l2 a3 true a0_0 l0_1))
def spec_ReproduceAt.T8 : Bool × List (List Nat × List Nat) := (true, [([], []), ([], []), ([1], [1]), ([], []), ([], []), ([2, 3, 4], [2, 3, 4]), ([0, 5, 5], [0, 5]), ([6, 6, 0, 1, 2, 3, 4, 5, 6], [6]), ([7, 0, 1, 2, 3, 4, 5, 6, 7], [])])
def spec_ReproduceAt.B8 : List Nat := [0, 0, 2, 0, 0, 30, 63, 127, 255]
theorem spec_ReproduceAt.tab8 : rtab .any (opsOf Try.f53 8) = spec_ReproduceAt.T8 := by kernel_rfl
theorem spec_ReproduceAt.bits8 : waitsOk spec_ReproduceAt.T8.2 spec_ReproduceAt.B8 = true := by kernel_rfl
set_option maxHeartbeats 8000000 in
set_option maxRecDepth 100000 in
theorem spec_ReproduceAt.calls (k : Nat) (a0_0 : Int) (A0_1 : Option Addr) (c0_1 : Nat) (l0_1 : List Int) (a1 : Int) (A2 : Option Addr) (c2 : Nat) (l2 : List Int) (a3 : Int) (r1 : Int) (r2 : Int) (w : World) (hr0_1 : Kd.C (Kd.int .i64) w A0_1 l0_1.length l0_1) (hc0_1 : l0_1.length ≤ c0_1) (hr2 : Kd.C (Kd.int .i64) w A2 l2.length l2) (hc2 : l2.length ≤ c2) (h : spec_ReproduceAt.f k a0_0 l0_1 a1 l2 a3 = some (r1, r2)) :
  Calls Try.prog 53 #[.agg #[.int .i64 a0_0, .slice A0_1 l0_1.length c0_1], .int .i64 a1, .slice A2 l2.length c2, .int .i64 a3] w fun e w' => e = .returned (.tuple #[.int .i64 r1, .int .i64 r2]) ∧ Below w.heap.size w w' := by
 have hu40 := Try.underlying40
 have HR0_1 := zA hr0_1
 have HC0_1 := zA hc0_1
 clear hr0_1 hc0_1
 have HR2 := zA hr2
 have HC2 := zA hc2
 clear hr2 hc2
 have HB := zA (Below.refl w.heap.size w)
 have H : ((spec_l02Are.f k a0_0 l0_1).bind fun t1021 => (if t1021 = true then ((spec_l01Poly.f k a0_0 l2).bind fun t1022 => (spec_ReproduceAt.j0 k a1 l2 a3 (!t1022) a0_0 l0_1)) else (spec_ReproduceAt.j0 k a1 l2 a3 true a0_0 l0_1))) = some (r1, r2) := h
 clear h
 have HC5 := zA H
 clear H
 go_enter Try.func53, Try.ntmps53
 go_upto_region 1 with (first | ((with_reducible refine gate_dst (N := 4) rfl ?_); (try (refine gate_guard (by rfl) ?_; dsimp only)); refine bx 4 #[.int .i64 a0_0, .slice A0_1 l0_1.length c0_1] 40 ?_; intro gb1020 hg w6 hbox hb; have BK1020 := zA (hbox); have GW1020 := gq HB hg; have GE1020 := gq HB hg; replace HB := xH HB hb; have := geI GE1020; clear hb hbox hg))
 (try simp only [Act.put, ls, lz, ln])
 go_cut [21] (fun v21 wc => ∃ (kq : Nat) (x21_4 : Bool), v21 = .bool x21_4 ∧ Aside0 (spec_ReproduceAt.j0 kq a1 l2 a3 x21_4 a0_0 l0_1 = some (r1, r2)) ∧ Aside0 (kq ≤ k) ∧ Aside0 (wc.heap[gb1020]? = some (.cells #[.int .i64 a0_0, (.slice A0_1 l0_1.length c0_1)] 40 (0, 0))) ∧ Aside0 (Below w.heap.size w wc))
 case first =>
  have H := HC5.out
  clear HC5
  replace H := Option.bind_eq_some_iff.mp H
  obtain ⟨t1021, A70, H⟩ := H
  replace H : (if t1021 = true then ((spec_l01Poly.f k a0_0 l2).bind fun t1022 => (spec_ReproduceAt.j0 k a1 l2 a3 (!t1022) a0_0 l0_1)) else (spec_ReproduceAt.j0 k a1 l2 a3 true a0_0 l0_1)) = some (r1, r2) := H
  have A7 := zA A70
  clear A70
  by_cases c8 : t1021 = true
  ·subst c8
   have H1 : ((spec_l01Poly.f k a0_0 l2).bind fun t1022 => (spec_ReproduceAt.j0 k a1 l2 a3 (!t1022) a0_0 l0_1)) = some (r1, r2) := by rw [if_pos rfl] at H; exact H
   clear H
   have H := H1
   clear H1
   replace H := Option.bind_eq_some_iff.mp H
   obtain ⟨t1022, A90, H⟩ := H
   replace H : (spec_ReproduceAt.j0 k a1 l2 a3 (!t1022) a0_0 l0_1) = some (r1, r2) := H
   have A9 := zA A90
   clear A90
   have H' := zA H
   clear H
   have hcz10_0 := bc BK1020 0
   have hcz10_1 := bc BK1020 1
   have hfz10_0 := bf BK1020 0
   have hfz10_1 := bf BK1020 1
   go_wp2_with (first | ((with_reducible refine gate_callee (f := 61) rfl ?_); refine gL (some 13) Try.func61 #[.agg #[.int .i64 a0_0, .slice A0_1 l0_1.length c0_1]] ?_; (with_reducible refine (spec_l02Are.calls k a0_0 _ _ l0_1 true _ ?side1 ?side2 A7.out).mono ?_); (case side1 => exact uC ((Kd.C_below HR0_1.out HB.out))); (case side2 => exact HC0_1.out); rintro e w11 ⟨rfl, hb⟩; refine ⟨_, rfl, ?_⟩; replace BK1020 := xB BK1020 hb; replace HB := xH HB hb; (try clear hb); (try clear hb2); (try clear hk); (try clear hi); have hcz12_0 := bc BK1020 0; have hcz12_1 := bc BK1020 1; have hfz12_0 := bf BK1020 0; have hfz12_1 := bf BK1020 1) | (go_at_call 101; (with_reducible refine (spec_l01Poly.calls k a0_0 _ _ l2 t1022 _ ?side1 ?side2 A9.out).mono ?_); (case side1 => exact uC ((Kd.C_below HR2.out HB.out))); (case side2 => exact HC2.out); rintro e w' ⟨rfl, ⟨nd, rfl⟩⟩))
   go_meet
   case rel => exact ⟨_, (!t1022), (by first | rfl | (simp; done) | (simp [*]; done)), H', ⟨by first | omega | exact Nat.le_refl _⟩, ⟨uB BK1020.out⟩, ⟨uH HB.out⟩⟩
  ·replace c8 := Bool.eq_false_iff.mpr c8
   subst c8
   have H1 : (spec_ReproduceAt.j0 k a1 l2 a3 true a0_0 l0_1) = some (r1, r2) := by rw [if_neg (show ¬ (false = true) by decide)] at H; exact H
   clear H
   have H := H1
   clear H1
   have H' := zA H
   clear H
   have hcz13_0 := bc BK1020 0
   have hcz13_1 := bc BK1020 1
   have hfz13_0 := bf BK1020 0
   have hfz13_1 := bf BK1020 1
   go_wp2_with (first | ((with_reducible refine gate_callee (f := 61) rfl ?_); refine gL (some 13) Try.func61 #[.agg #[.int .i64 a0_0, .slice A0_1 l0_1.length c0_1]] ?_; (with_reducible refine (spec_l02Are.calls k a0_0 _ _ l0_1 false _ ?side1 ?side2 A7.out).mono ?_); (case side1 => exact uC ((Kd.C_below HR0_1.out HB.out))); (case side2 => exact HC0_1.out); rintro e w14 ⟨rfl, hb⟩; refine ⟨_, rfl, ?_⟩; replace BK1020 := xB BK1020 hb; replace HB := xH HB hb; (try clear hb); (try clear hb2); (try clear hk); (try clear hi)))
   go_meet
   case rel => exact ⟨_, (true), (by first | rfl | (simp; done) | (simp [*]; done)), H', ⟨by first | omega | exact Nat.le_refl _⟩, ⟨uB BK1020.out⟩, ⟨uH HB.out⟩⟩
 case rest =>
  clear HC5
  (try clear c2);(try clear p2);(try clear c5);(try clear c6);(try clear c8);(try clear hcz10_0);(try clear hcz10_1);(try clear hcz12_0);(try clear hcz12_1);(try clear hcz13_0);(try clear hcz13_1);(try clear hfz10_0);(try clear hfz10_1);(try clear hfz12_0);(try clear hfz12_1);(try clear hfz13_0);(try clear hfz13_1)
  obtain ⟨kq, x21_4, rfl, HA, HJ4, BK1020, HB⟩ := hcut
  cases kq with
  | zero => exact absurd HA.out (by simp [spec_ReproduceAt.j0])
  | succ kj4 =>
   have H := HA.out
   clear HA
   simp only [spec_ReproduceAt.j0] at H
   by_cases c15 : x21_4 = true
   ·subst c15
    have H1 : (some (0, 1)) = some (r1, r2) := by rw [if_pos rfl] at H; exact H
    clear H
    have H := H1
    clear H1
    simp only [Option.some.injEq, Prod.mk.injEq] at H
    obtain ⟨rfl, rfl⟩ := H
    go_wp2
    go_ret2
    exact ⟨by first | rfl | (simp [errW_none, errW_some] <;> rfl) | (simp [*, errW_none, errW_some] <;> rfl), uH HB.out⟩
   ·replace c15 := Bool.eq_false_iff.mpr c15
    subst c15
    have H1 : ((spec_l04Kernel.f kj4 a0_0 l0_1 a1 a3).bind fun bt1023 => (if bt1023.2 = 1 then (spec_ReproduceAt.j1 kj4 l2 bt1023.1 bt1023.2 false a0_0 l0_1) else (spec_ReproduceAt.j1 kj4 l2 bt1023.1 bt1023.2 (decide ((l2.length : Int) > (wrap64 (a1 + 1)))) a0_0 l0_1))) = some (r1, r2) := by rw [if_neg (show ¬ (false = true) by decide)] at H; exact H
    clear H
    have H := H1
    clear H1
    replace H := Option.bind_eq_some_iff.mp H
    obtain ⟨⟨t1023, t1026⟩, A160, H⟩ := H
    replace H : (if t1026 = 1 then (spec_ReproduceAt.j1 kj4 l2 t1023 t1026 false a0_0 l0_1) else (spec_ReproduceAt.j1 kj4 l2 t1023 t1026 (decide ((l2.length : Int) > (wrap64 (a1 + 1)))) a0_0 l0_1)) = some (r1, r2) := H
    have A16 := zA A160
    clear A160
    have HC17 := zA H
    clear H
    have hcz18_0 := bc BK1020 0
    have hcz18_1 := bc BK1020 1
    have hfz18_0 := bf BK1020 0
    have hfz18_1 := bf BK1020 1
    go_upto_region 4 with (first | ((with_reducible refine gate_callee (f := 106) rfl ?_); refine gL (some 26) Try.func106 #[.agg #[.int .i64 a0_0, .slice A0_1 l0_1.length c0_1], .int .i64 a1, .int .i64 a3] ?_; (with_reducible refine (spec_l04Kernel.calls kj4 a0_0 _ _ l0_1 a1 a3 t1023 t1026 _ ?side1 ?side2 A16.out).mono ?_); (case side1 => exact uC ((Kd.C_below HR0_1.out HB.out))); (case side2 => exact HC0_1.out); rintro e w19 ⟨v1024, rfl, ho0, hb⟩; refine ⟨_, rfl, ?_⟩; have HO1025 := zA (Kd.R_lower ho0 (below_size (uH HB.out))); replace BK1020 := xB BK1020 hb; replace HB := xH HB hb; (try clear hb); (try clear hb2); (try clear hk); (try clear hi); (try clear ho0)))
    (try simp only [Act.put, ls, lz, ln])
    go_cut [37] (fun v37 wc => ∃ (kq : Nat) (x37_16 : Bool), v37 = .bool x37_16 ∧ Aside0 (spec_ReproduceAt.j1 kq l2 t1023 t1026 x37_16 a0_0 l0_1 = some (r1, r2)) ∧ Aside0 (kq ≤ kj4) ∧ Aside0 (Kd.R (Kd.int .i64) 2 wc w.heap.size (fun _ => True) v1024 t1023) ∧ Aside0 (wc.heap[gb1020]? = some (.cells #[.int .i64 a0_0, (.slice A0_1 l0_1.length c0_1)] 40 (0, 0))) ∧ Aside0 (Below w.heap.size w wc))
    case first =>
     have H := HC17.out
     clear HC17
     by_cases c20 : t1026 = 1
     rotate_left
     ·rw [if_neg c20] at H
      have c20b0 : (t1026 == 1) = false := beq_eq_false_iff_ne.mpr c20
      have c20b1 : (t1026 != 1) = true := bne_iff_ne.mpr c20
      (first | rw [c20b0] | (simp only [i64_w, i32_w]; rw [c20b0]) | skip)
      have H' := zA H
      clear H
      go_wp2
      go_meet
      case rel => exact ⟨_, (decide ((l2.length : Int) > (wrap64 (a1 + 1)))), (by first | rfl | (simp; done) | (simp [*]; done)), H', ⟨by have := HJ4.out; first | omega | exact Nat.le_refl _⟩, ⟨uR HO1025.out⟩, ⟨uB BK1020.out⟩, ⟨uH HB.out⟩⟩
     rw [if_pos c20] at H
     have c20b0 : (t1026 == 1) = true := beq_iff_eq.mpr c20
     have c20b1 : (t1026 != 1) = false := bne_eq_false_iff_eq.mpr c20
     clear c20
     (first | rw [c20b0] | (simp only [i64_w, i32_w]; rw [c20b0]) | skip)
     have H' := zA H
     clear H
     go_wp2
     go_meet
     case rel => exact ⟨_, (false), (by first | rfl | (simp; done) | (simp [*]; done)), H', ⟨by have := HJ4.out; first | omega | exact Nat.le_refl _⟩, ⟨uR HO1025.out⟩, ⟨uB BK1020.out⟩, ⟨uH HB.out⟩⟩
    case rest =>
     clear HC17
     (try clear c1);(try clear c2);(try clear p2);(try clear c5);(try clear c6);(try clear p6);(try clear c8);(try clear c10);(try clear c15);(try clear c20);(try clear c20b0);(try clear c20b1);(try clear hcz10_0);(try clear hcz10_1);(try clear hcz12_0);(try clear hcz12_1);(try clear hcz13_0);(try clear hcz13_1);(try clear hcz18_0);(try clear hcz18_1);(try clear hfz10_0);(try clear hfz10_1);(try clear hfz12_0)
     (try clear hfz12_1);(try clear hfz13_0);(try clear hfz13_1);(try clear hfz18_0);(try clear hfz18_1);(try clear p2)
     obtain ⟨kq, x37_16, rfl, HA, HJ16, HO_10, BK1020, HB⟩ := hcut
     cases kq with
     | zero => exact absurd HA.out (by simp [spec_ReproduceAt.j1])
     | succ kj16 =>
      have H := HA.out
      clear HA
      simp only [spec_ReproduceAt.j1] at H
      have HC21 := zA H
      clear H
      go_upto_if 37 with (fail)
      go_cut [11] (fun v11 wc => ∃ (kq : Nat) (x11_20 : Int), v11 = .int .i64 x11_20 ∧ Aside0 (spec_ReproduceAt.j2 kq l2 t1023 x11_20 a0_0 l0_1 = some (r1, r2)) ∧ Aside0 (kq ≤ kj16) ∧ Aside0 (Kd.R (Kd.int .i64) 2 wc w.heap.size (fun _ => True) v1024 t1023) ∧ Aside0 (wc.heap[gb1020]? = some (.cells #[.int .i64 a0_0, (.slice A0_1 l0_1.length c0_1)] 40 (0, 0))) ∧ Aside0 (Below w.heap.size w wc))
      case first =>
       have H := HC21.out
       clear HC21
       by_cases c22 : x37_16 = true
       ·subst c22
        have H1 : (spec_ReproduceAt.j2 kj16 l2 t1023 2 a0_0 l0_1) = some (r1, r2) := by rw [if_pos rfl] at H; exact H
        clear H
        have H := H1
        clear H1
        have H' := zA H
        clear H
        go_wp2
        go_meet
        case rel => exact ⟨_, (2), (by first | rfl | (simp; done) | (simp [*]; done)), H', ⟨by have := HJ4.out; have := HJ16.out; first | omega | exact Nat.le_refl _⟩, ⟨uR HO_10.out⟩, ⟨uB BK1020.out⟩, ⟨uH HB.out⟩⟩
       ·replace c22 := Bool.eq_false_iff.mpr c22
        subst c22
        have H1 : (spec_ReproduceAt.j2 kj16 l2 t1023 t1026 a0_0 l0_1) = some (r1, r2) := by rw [if_neg (show ¬ (false = true) by decide)] at H; exact H
        clear H
        have H := H1
        clear H1
        have H' := zA H
        clear H
        go_wp2
        go_meet
        case rel => exact ⟨_, (t1026), (by first | rfl | (simp; done) | (simp [*]; done)), H', ⟨by have := HJ4.out; have := HJ16.out; first | omega | exact Nat.le_refl _⟩, ⟨uR HO_10.out⟩, ⟨uB BK1020.out⟩, ⟨uH HB.out⟩⟩
      case rest =>
       clear HC21
       (try clear c1);(try clear c2);(try clear p2);(try clear c5);(try clear c6);(try clear p6);(try clear c8);(try clear c10);(try clear c15);(try clear c20);(try clear c20b0);(try clear c20b1);(try clear c22);(try clear hcz10_0);(try clear hcz10_1);(try clear hcz12_0);(try clear hcz12_1);(try clear hcz13_0);(try clear hcz13_1);(try clear hcz18_0);(try clear hcz18_1);(try clear hfz10_0);(try clear hfz10_1)
       (try clear hfz12_0);(try clear hfz12_1);(try clear hfz13_0);(try clear hfz13_1);(try clear hfz18_0);(try clear hfz18_1);(try clear p2);(try clear p6)
       obtain ⟨kq, x11_20, rfl, HA, HJ20, HO_10, BK1020, HB⟩ := hcut
       cases kq with
       | zero => exact absurd HA.out (by simp [spec_ReproduceAt.j2])
       | succ kj20 =>
        have H := HA.out
        clear HA
        simp only [spec_ReproduceAt.j2] at H
        by_cases c23 : x11_20 = 0
        rotate_left
        ·rw [if_neg c23] at H
         have c23b0 : (x11_20 == 0) = false := beq_eq_false_iff_ne.mpr c23
         have c23b1 : (x11_20 != 0) = true := bne_iff_ne.mpr c23
         simp only [Option.some.injEq, Prod.mk.injEq] at H
         obtain ⟨rfl, rfl⟩ := H
         go_wp2
         go_ret2
         exact ⟨by first | rfl | (simp [errW_none, errW_some] <;> rfl) | (simp [*, errW_none, errW_some] <;> rfl), uH HB.out⟩

        rw [if_pos c23] at H
        have c23b0 : (x11_20 == 0) = true := beq_iff_eq.mpr c23
        have c23b1 : (x11_20 != 0) = false := bne_eq_false_iff_eq.mpr c23
        clear c23
        replace H := Option.bind_eq_some_iff.mp H
        obtain ⟨t1027, A240, H⟩ := H
        replace H : ((spec_l02Apply.f kj20 a0_0 l0_1 t1027 0).bind fun t1030 => (some (t1030, 0))) = some (r1, r2) := H
        have A24 := zA A240
        clear A240
        replace H := Option.bind_eq_some_iff.mp H
        obtain ⟨t1030, A250, H⟩ := H
        replace H : (some (t1030, 0)) = some (r1, r2) := H
        have A25 := zA A250
        clear A250
        simp only [Option.some.injEq, Prod.mk.injEq] at H
        obtain ⟨rfl, rfl⟩ := H
        try go_wp2
        replace HO_10 := zA (Kd.R_drew HO_10.out)
        replace BK1020 := zA (blk_drew BK1020.out)
        replace HB := zA (below_drew1 HB.out)
        obtain ⟨Ao27, co27, eo27⟩ := Kd.R_slice HO_10.out
        (first | subst eo27 | (injection eo27 with f1_ f2_ f3_; have f4_ := f1_.symm; have f5_ := f3_.symm; clear f1_ f2_ f3_; subst f4_; subst f5_))
        refine start_ (n := 9) (S := fun w' => w'.cell? ⟨gb1020, 0, none⟩ = some (.int .i64 a0_0) ∧ w'.cell? ⟨gb1020, 1, none⟩ = some (.slice A0_1 l0_1.length c0_1)) (ds := []) #[false, false, false, false, false, false, false, false, false] (by kernel_rfl) rfl rfl ⟨bcu BK1020 0, bcu BK1020 1⟩ (fun hHeld => ?_); refine with_tabW spec_ReproduceAt.tab8 spec_ReproduceAt.bits8 (fun HT_ HW_ => ?_)
        generalize wc.drew = w26 at HO_10 BK1020 HB hHeld ⊢
        refine pu_ 1 42 (bl 9 2) HT_ ?_
        refine pu_ 3 44 (bl 9 10) HT_ ?_
        refine pu_ 4 45 (bl 9 26) HT_ ?_
        refine ta_ 0 41 (bl 9 27) HT_ HW_ hHeld ?_
        refine ta_ 2 43 (bl 9 31) HT_ HW_ hHeld ?_
        refine on_ 5 (some 46) (bl 9 63) HT_ (fun K hK => ?_)
        refine gS Try.func113 #[.int .i64 a0_0, .slice Ao27 t1023.length co27, .slice A2 l2.length c2] ?_
        with_reducible refine (spec_l01Times.calls kj20 a0_0 _ _ t1023 _ _ l2 t1027 _ ?side1 ?side2 ?side3 ?side4 A24.out).mono ?_
        (case side1 => exact uC ((Kd.R_reads' HO_10.out).2.2))
        (case side2 => exact (Kd.R_reads' HO_10.out).2.1)
        (case side3 => exact uC ((Kd.C_below HR2.out HB.out)))
        (case side4 => exact HC2.out)
        rintro e w28 ⟨v1028, rfl, ho0, hb⟩
        refine ⟨_, rfl, ?_⟩
        have HO1029 := zA (Kd.R_lower (Kd.R_new' ho0 (Kd.R_lt (uR HO_10.out))) (below_size (uH HB.out)))
        replace HO_10 := zA (Kd.R_elder' (uR HO_10.out) (Kd.R_base ho0) hb)
        replace BK1020 := xB BK1020 hb
        replace HB := xH HB hb
        (try clear hb); (try clear hb2); (try clear hk); (try clear hi); (try clear ho0)
        obtain ⟨Ao29, co29, eo29⟩ := Kd.R_slice HO1029.out
        (first | subst eo29 | (injection eo29 with f1_ f2_ f3_; have f4_ := f1_.symm; have f5_ := f3_.symm; clear f1_ f2_ f3_; subst f4_; subst f5_))
        refine hK.out _ _ ⟨bcu BK1020 0, bcu BK1020 1⟩ (fun hHeld => ?_)
        clear hK K
        refine no_ 46 ?_
        refine on_ 6 (some 47) (bl 9 127) HT_ (fun K hK => ?_)
        refine gS Try.func112 #[.agg #[.int .i64 a0_0, .slice A0_1 l0_1.length c0_1], .slice Ao29 t1027.length co29, .int .i64 0] ?_
        with_reducible refine (spec_l02Apply.calls kj20 a0_0 _ _ l0_1 _ _ t1027 0 t1030 _ ?side1 ?side2 ?side3 ?side4 A25.out).mono ?_
        (case side1 => exact uC ((Kd.C_below HR0_1.out HB.out)))
        (case side2 => exact HC0_1.out)
        (case side3 => exact uC ((Kd.R_reads' HO1029.out).2.2))
        (case side4 => exact (Kd.R_reads' HO1029.out).2.1)
        rintro e w30 ⟨rfl, hb⟩
        refine ⟨_, rfl, ?_⟩
        replace HO_10 := xR HO_10 hb
        replace HO1029 := xR HO1029 hb
        replace BK1020 := xB BK1020 hb
        replace HB := xH HB hb
        (try clear hb); (try clear hb2); (try clear hk); (try clear hi)
        refine hK.out _ _ ⟨bcu BK1020 0, bcu BK1020 1⟩ (fun hHeld => ?_)
        clear hK K
        refine no_ 47 ?_
        refine pu_ 7 8 (bl 9 255) HT_ ?_
        refine pu_ 8 9 (bl 9 511) HT_ ?_
        refine done_ (done_of HT_.out (by kernel_rfl)) ?_
        try go_wp2
        go_ret2
        exact ⟨by first | rfl | (simp [errW_none, errW_some] <;> rfl) | (simp [*, errW_none, errW_some] <;> rfl), uH HB.out⟩
end Go.Proofs.Ytfbnkebgdmfcfaa.Pr
