/- Texts of this session in one: what functions of the program compute, and plain facts of it, under the conditions that each theorem names. -/
import Derived.Below
import Derived.ChangeOld
import Derived.Lib.SmallJoins
import Derived.OpenShut
import Derived.ProofKit
import Derived.ShutString
import Derived.SizedLaws
import Derived.Test.YtfbnkebgdmfcfaaRows
import Derived.WalkKit
import Derived.Test.YtfbnkebgdmfcfaaKC01
import Derived.Test.YtfbnkebgdmfcfaaKC02
import Derived.Test.YtfbnkebgdmfcfaaKC03
import Derived.Test.YtfbnkebgdmfcfaaKC06
import Derived.Test.YtfbnkebgdmfcfaaKC11
import Derived.Test.YtfbnkebgdmfcfaaKC31
import Derived.Test.YtfbnkebgdmfcfaaKC32
import Derived.Test.YtfbnkebgdmfcfaaWSized
namespace Go.Proofs.Ytfbnkebgdmfcfaa.Pr
open Go.RowKit Go.Proofs.YtfbnkebgdmfcfaaW.PrintWords Go.Proofs.YtfbnkebgdmfcfaaW.PrintLast Go.Proofs.YtfbnkebgdmfcfaaW.PrintMore
attribute [local go_sem] max2_int min2_int max_two min_two max_three min_three max_four min_four   -- for this text's walks alone
set_option linter.unusedVariables false
set_option linter.unusedSimpArgs false
/-! ### impl_KernelAt_1: function 109 -/
def impl_KernelAt_1.f (a0_0 : Int) (l0_1 : List Int) (a1_0 : Int) : Option (Bool) := (impl_Moments_field.f a0_0 l0_1).bind fun t866 => ((impl_field_has.f t866 a1_0).bind fun t867 => (some t867))
set_option maxHeartbeats 8000000 in
set_option maxRecDepth 100000 in
theorem impl_KernelAt_1.calls (gc0 : Nat) (a0_0 : Int) (A0_1 : Option Addr) (c0_1 : Nat) (l0_1 : List Int) (gc1 : Nat) (a1_0 : Int) (r : Bool) (w : World) (hb0 : w.heap[gc0]? = some (.cells #[.int .i64 a0_0, .slice A0_1 l0_1.length c0_1] 40 (0, 0))) (hr0_1 : Kd.C (Kd.int .i64) w A0_1 l0_1.length l0_1) (hc0_1 : l0_1.length ≤ c0_1) (hb1 : w.heap[gc1]? = some (.cells #[.int .i64 a1_0] 2 (0, 0))) (h : impl_KernelAt_1.f a0_0 l0_1 a1_0 = some r) :
  Calls Try.prog 109 #[.pointer (some ⟨gc0, 0, none⟩), .pointer (some ⟨gc1, 0, none⟩)] w fun e w' => e = .returned (.bool r) ∧ Below w.heap.size w w' := by
 have hu40 := Try.underlying40
 have HR0_1 := zA hr0_1
 have HC0_1 := zA hc0_1
 clear hr0_1 hc0_1
 have BK0 := zA hb0
 clear hb0
 have BK1 := zA hb1
 clear hb1
 have HB := zA (Below.refl w.heap.size w)
 have H : ((impl_Moments_field.f a0_0 l0_1).bind fun t866 => ((impl_field_has.f t866 a1_0).bind fun t867 => (some t867))) = some r := h
 clear h
 replace H := Option.bind_eq_some_iff.mp H
 obtain ⟨t866, A30, H⟩ := H
 replace H : ((impl_field_has.f t866 a1_0).bind fun t867 => (some t867)) = some r := H
 have A3 := zA A30
 clear A30
 replace H := Option.bind_eq_some_iff.mp H
 obtain ⟨t867, A40, H⟩ := H
 replace H : (some t867) = some r := H
 have A4 := zA A40
 clear A40
 obtain rfl := Option.some.inj H
 go_enter Try.func109, Try.ntmps109
 try go_wp2
 replace BK0 := zA (blk_drew BK0.out)
 replace BK1 := zA (blk_drew BK1.out)
 replace HB := zA (below_drew1 HB.out)
 refine start_ (n := 5) (S := fun w' => w'.cell? ⟨gc0, 0, none⟩ = some (.int .i64 a0_0) ∧ w'.cell? ⟨gc0, 1, none⟩ = some (.slice A0_1 l0_1.length c0_1) ∧ w'.cell? ⟨gc1, 0, none⟩ = some (.int .i64 a1_0)) (ds := []) #[false, false, false, false, false] (by kernel_rfl) rfl rfl ⟨bcu BK0 0, bcu BK0 1, bcu BK1 0⟩ (fun hHeld => ?_)
 generalize w.drew = w5 at BK0 BK1 HB hHeld ⊢
 refine take_ (i := 0) (N := some 3) (v := ?_) (a' := ?_) (bl 5 1) rfl rfl (by kernel_rfl) (fun _ _ _ h => h) (Or.inl ⟨by rfl, ?_⟩) hHeld ?_ ?_
 rotate_left
 ·rintro w' ⟨s0, s1, s2⟩
  go_simp
  with_reducible rfl
 rotate_left
 ·simp only [Act.put, ls, lz, ln, i64_w, i32_w]
  rfl
 refine take_ (i := 2) (N := some 5) (v := ?_) (a' := ?_) (bl 5 5) rfl rfl (by kernel_rfl) (fun _ _ _ h => h) (Or.inl ⟨by rfl, ?_⟩) hHeld ?_ ?_
 rotate_left
 ·rintro w' ⟨s0, s1, s2⟩
  go_simp
  with_reducible rfl
 rotate_left
 ·simp only [Act.put, ls, lz, ln, i64_w, i32_w]
  rfl
 refine one_ (i := 1) (N := some 4) (bl 5 7) rfl rfl (by kernel_rfl) (by decide) (fun K hK => ?_)
 refine gS Try.func75 #[.agg #[.int .i64 a0_0, .slice A0_1 l0_1.length c0_1]] ?_
 with_reducible refine (impl_Moments_field.calls a0_0 _ _ l0_1 t866 _ ?side1 ?side2 A3.out).mono ?_
 (case side1 => exact uC ((Kd.C_below HR0_1.out HB.out)))
 (case side2 => exact HC0_1.out)
 rintro e w6 ⟨rfl, hb⟩
 refine ⟨_, rfl, ?_⟩
 replace BK0 := xB BK0 hb
 replace BK1 := xB BK1 hb
 replace HB := xH HB hb
 (try clear hb); (try clear hb2); (try clear hk); (try clear hi)
 refine hK.out _ _ ⟨bcu BK0 0, bcu BK0 1, bcu BK1 0⟩ (fun hHeld => ?_)
 clear hK K
 refine no_ 4 ?_
 refine one_ (i := 3) (N := some 6) (bl 5 15) rfl rfl (by kernel_rfl) (by decide) (fun K hK => ?_)
 refine gS Try.func99 #[.int .i64 t866, .int .i64 a1_0] ?_
 with_reducible refine (impl_field_has.calls t866 a1_0 t867 _ A4.out).mono ?_
 rintro e w' ⟨rfl, ⟨nd, rfl⟩⟩
 refine ⟨_, rfl, ?_⟩
 refine hK.out _ _ ⟨bcu BK0 0, bcu BK0 1, bcu BK1 0⟩ (fun hHeld => ?_)
 clear hK K
 refine no_ 6 ?_
 refine pure_ (i := 4) (N := some 2) (v := ?_) (a' := ?_) (bl 5 31) rfl rfl (by kernel_rfl) (fun _ _ _ h => h) (Or.inl ⟨by rfl, ?_⟩) ?_ ?_
 rotate_left
 ·intro w'
  go_simp
  with_reducible rfl
 rotate_left
 ·simp only [Act.put, ls, lz, ln, i64_w, i32_w]
  rfl
 refine done_ (by kernel_rfl) ?_
 try go_wp2
 go_ret
 exact ⟨by first | rfl | (simp [errW_none, errW_some] <;> rfl) | (simp [*, errW_none, errW_some] <;> rfl), uH HB.out⟩
/-! ### impl_KernelAt: function 48 -/
def impl_KernelAt.f (k : Nat) (a0_0 : Int) (l0_1 : List Int) (a1 : Int) (a2 : Int) (a3 : Int) : Option (Int × Int) := (impl_KernelAt_1.f a0_0 l0_1 a3).bind fun t876 => ((impl_kernelOf.f k a0_0 l0_1 a1 a2 t876 ([] : List (List Int))).bind fun bt877 => (if bt877.2 = 0 then ((impl_Moments_field.f a0_0 l0_1).bind fun t881 => ((impl_field_value.f t881 bt877.1 a3).bind fun t882 => (some (t882, 0)))) else (some (0, bt877.2))))
set_option maxHeartbeats 8000000 in
set_option maxRecDepth 100000 in
theorem impl_KernelAt.calls (k : Nat) (a0_0 : Int) (A0_1 : Option Addr) (c0_1 : Nat) (l0_1 : List Int) (a1 : Int) (a2 : Int) (a3 : Int) (r1 : Int) (r2 : Int) (w : World) (hr0_1 : Kd.C (Kd.int .i64) w A0_1 l0_1.length l0_1) (hc0_1 : l0_1.length ≤ c0_1) (h : impl_KernelAt.f k a0_0 l0_1 a1 a2 a3 = some (r1, r2)) :
  Calls Try.prog 48 #[.agg #[.int .i64 a0_0, .slice A0_1 l0_1.length c0_1], .int .i64 a1, .int .i64 a2, .int .i64 a3] w fun e w' => e = .returned (.tuple #[.int .i64 r1, .int .i64 r2]) ∧ Below w.heap.size w w' := by
 have hu40 := Try.underlying40
 have hmf : ∀ (fn_ : Fn) (first_ cap_ : Array Value) (w_ : World), (Instr.makeFunc fn_ first_ cap_).run Try.prog w_ = .ok (.func fn_ first_ cap_) w_ := fun _ _ _ _ => rfl
 have HR0_1 := zA hr0_1
 have HC0_1 := zA hc0_1
 clear hr0_1 hc0_1
 have HB := zA (Below.refl w.heap.size w)
 have H : ((impl_KernelAt_1.f a0_0 l0_1 a3).bind fun t876 => ((impl_kernelOf.f k a0_0 l0_1 a1 a2 t876 ([] : List (List Int))).bind fun bt877 => (if bt877.2 = 0 then ((impl_Moments_field.f a0_0 l0_1).bind fun t881 => ((impl_field_value.f t881 bt877.1 a3).bind fun t882 => (some (t882, 0)))) else (some (0, bt877.2))))) = some (r1, r2) := h
 clear h
 replace H := Option.bind_eq_some_iff.mp H
 obtain ⟨t876, A50, H⟩ := H
 replace H : ((impl_kernelOf.f k a0_0 l0_1 a1 a2 t876 ([] : List (List Int))).bind fun bt877 => (if bt877.2 = 0 then ((impl_Moments_field.f a0_0 l0_1).bind fun t881 => ((impl_field_value.f t881 bt877.1 a3).bind fun t882 => (some (t882, 0)))) else (some (0, bt877.2)))) = some (r1, r2) := H
 have A5 := zA A50
 clear A50
 replace H := Option.bind_eq_some_iff.mp H
 obtain ⟨⟨t877, t880⟩, A60, H⟩ := H
 replace H : (if t880 = 0 then ((impl_Moments_field.f a0_0 l0_1).bind fun t881 => ((impl_field_value.f t881 t877 a3).bind fun t882 => (some (t882, 0)))) else (some (0, t880))) = some (r1, r2) := H
 have A6 := zA A60
 clear A60
 by_cases c7 : t880 = 0
 rotate_left
 ·rw [if_neg c7] at H
  have c7b0 : (t880 == 0) = false := beq_eq_false_iff_ne.mpr c7
  have c7b1 : (t880 != 0) = true := bne_iff_ne.mpr c7
  simp only [Option.some.injEq, Prod.mk.injEq] at H
  obtain ⟨rfl, rfl⟩ := H
  go_enter Try.func48, Try.ntmps48
  go_wp2_with (first | ((with_reducible refine gate_dst (N := 4) rfl ?_); refine bx 4 #[.int .i64 a0_0, .slice A0_1 l0_1.length c0_1] 40 ?_; intro gb874 hg w19 hbox hb; have BK874 := zA (hbox); have GW874 := gq HB hg; have GE874 := gq HB hg; replace HB := xH HB hb; have := geI GE874; clear hb hbox hg) | ((with_reducible refine gate_dst (N := 7) rfl ?_); refine bx 7 #[.int .i64 a3] 2 ?_; intro gb875 hg w20 hbox hb; have BK875 := zA (hbox); have GW875 := gq HB hg; have GE875 := gq HB hg; replace HB := xH HB hb; have NB874_875 := zA ((by rw [hg]; exact neL BK874 : gb874 ≠ gb875)); have NB875_874 := zA ((by rw [hg]; exact neG BK874 : gb875 ≠ gb874)); replace BK874 := xB BK874 hb; have := geI GE875; clear hb hbox hg; have hnb21 := NB874_875.out; have hnc21 := NB875_874.out; have hcz22_0 := bc BK874 0; have hcz22_1 := bc BK874 1; have hfz22_0 := bf BK874 0; have hfz22_1 := bf BK874 1) | ((with_reducible refine gate_callee (f := 108) rfl ?_); refine gL (some 17) Try.func108 #[.agg #[.int .i64 a0_0, .slice A0_1 l0_1.length c0_1], .int .i64 a1, .int .i64 a2, (.func (.func 109) #[] #[.pointer (some ⟨gb874, 0, none⟩), .pointer (some ⟨gb875, 0, none⟩)]), .slice none 0 0] ?_; (refine (impl_kernelOf.calls k a0_0 _ _ l0_1 a1 a2 _ t876 _ _ ([] : List (List Int)) t877 t880 _ ?side1 ?side2 ?side3 ?side4 ?side5 A6.out).mono ?_); (case side1 => exact uC ((Kd.C_below HR0_1.out HB.out))); (case side2 => exact HC0_1.out); (case side3 => exact FnB.of Try.func109 (by kernel_rfl) rfl (fun W_ hW_ => calls_of_args (args' := #[.pointer (some ⟨gb874, 0, none⟩), .pointer (some ⟨gb875, 0, none⟩)]) (by simp) ((impl_KernelAt_1.calls _ a0_0 _ _ l0_1 _ a3 _ W_ (blk_below (g := gb874) (o := .cells #[.int .i64 a0_0, .slice A0_1 l0_1.length c0_1] 40 (0, 0)) (uB BK874.out) hW_) (Kd.C_below (by exact uC ((Kd.C_below HR0_1.out HB.out))) hW_) (by exact HC0_1.out) (blk_below (g := gb875) (o := .cells #[.int .i64 a3] 2 (0, 0)) (uB BK875.out) hW_) A5.out).mono fun e_ W2_ h_ => ⟨h_.1, h_.2⟩))); (case side4 => exact Kd.C_nil _ _); (case side5 => exact Nat.le_refl _); rintro e w23 ⟨v878, rfl, ho0, hb⟩; refine ⟨_, rfl, ?_⟩; have HO879 := zA (Kd.R_lower (Kd.R_newB ho0 (g := gb875) (o := .cells #[.int .i64 a3] 2 (0, 0)) (uB BK875.out)) (below_size (uH HB.out))); replace BK874 := xB BK874 hb; replace BK875 := xB BK875 hb; replace HB := xH HB hb; (try clear hb); (try clear hb2); (try clear hk); (try clear hi); (try clear ho0)))
  go_ret2
  exact ⟨by first | rfl | (simp [errW_none, errW_some] <;> rfl) | (simp [*, errW_none, errW_some] <;> rfl), uH HB.out⟩

 rw [if_pos c7] at H
 have c7b0 : (t880 == 0) = true := beq_iff_eq.mpr c7
 have c7b1 : (t880 != 0) = false := bne_eq_false_iff_eq.mpr c7
 clear c7
 replace H := Option.bind_eq_some_iff.mp H
 obtain ⟨t881, A80, H⟩ := H
 replace H : ((impl_field_value.f t881 t877 a3).bind fun t882 => (some (t882, 0))) = some (r1, r2) := H
 have A8 := zA A80
 clear A80
 replace H := Option.bind_eq_some_iff.mp H
 obtain ⟨t882, A90, H⟩ := H
 replace H : (some (t882, 0)) = some (r1, r2) := H
 have A9 := zA A90
 clear A90
 simp only [Option.some.injEq, Prod.mk.injEq] at H
 obtain ⟨rfl, rfl⟩ := H
 go_enter Try.func48, Try.ntmps48
 try go_wp2_with (first | ((with_reducible refine gate_dst (N := 4) rfl ?_); refine bx 4 #[.int .i64 a0_0, .slice A0_1 l0_1.length c0_1] 40 ?_; intro gb874 hg w10 hbox hb; have BK874 := zA (hbox); have GW874 := gq HB hg; have GE874 := gq HB hg; replace HB := xH HB hb; have := geI GE874; clear hb hbox hg) | ((with_reducible refine gate_dst (N := 7) rfl ?_); refine bx 7 #[.int .i64 a3] 2 ?_; intro gb875 hg w11 hbox hb; have BK875 := zA (hbox); have GW875 := gq HB hg; have GE875 := gq HB hg; replace HB := xH HB hb; have NB874_875 := zA ((by rw [hg]; exact neL BK874 : gb874 ≠ gb875)); have NB875_874 := zA ((by rw [hg]; exact neG BK874 : gb875 ≠ gb874)); replace BK874 := xB BK874 hb; have := geI GE875; clear hb hbox hg; have hnb12 := NB874_875.out; have hnc12 := NB875_874.out; have hcz13_0 := bc BK874 0; have hcz13_1 := bc BK874 1; have hfz13_0 := bf BK874 0; have hfz13_1 := bf BK874 1) | ((with_reducible refine gate_callee (f := 108) rfl ?_); refine gL (some 17) Try.func108 #[.agg #[.int .i64 a0_0, .slice A0_1 l0_1.length c0_1], .int .i64 a1, .int .i64 a2, (.func (.func 109) #[] #[.pointer (some ⟨gb874, 0, none⟩), .pointer (some ⟨gb875, 0, none⟩)]), .slice none 0 0] ?_; (refine (impl_kernelOf.calls k a0_0 _ _ l0_1 a1 a2 _ t876 _ _ ([] : List (List Int)) t877 t880 _ ?side1 ?side2 ?side3 ?side4 ?side5 A6.out).mono ?_); (case side1 => exact uC ((Kd.C_below HR0_1.out HB.out))); (case side2 => exact HC0_1.out); (case side3 => exact FnB.of Try.func109 (by kernel_rfl) rfl (fun W_ hW_ => calls_of_args (args' := #[.pointer (some ⟨gb874, 0, none⟩), .pointer (some ⟨gb875, 0, none⟩)]) (by simp) ((impl_KernelAt_1.calls _ a0_0 _ _ l0_1 _ a3 _ W_ (blk_below (g := gb874) (o := .cells #[.int .i64 a0_0, .slice A0_1 l0_1.length c0_1] 40 (0, 0)) (uB BK874.out) hW_) (Kd.C_below (by exact uC ((Kd.C_below HR0_1.out HB.out))) hW_) (by exact HC0_1.out) (blk_below (g := gb875) (o := .cells #[.int .i64 a3] 2 (0, 0)) (uB BK875.out) hW_) A5.out).mono fun e_ W2_ h_ => ⟨h_.1, h_.2⟩))); (case side4 => exact Kd.C_nil _ _); (case side5 => exact Nat.le_refl _); rintro e w14 ⟨v878, rfl, ho0, hb⟩; refine ⟨_, rfl, ?_⟩; have HO879 := zA (Kd.R_lower (Kd.R_newB ho0 (g := gb875) (o := .cells #[.int .i64 a3] 2 (0, 0)) (uB BK875.out)) (below_size (uH HB.out))); replace BK874 := xB BK874 hb; replace BK875 := xB BK875 hb; replace HB := xH HB hb; (try clear hb); (try clear hb2); (try clear hk); (try clear hi); (try clear ho0)))
 replace HO879 := zA (Kd.R_drew HO879.out)
 replace BK874 := zA (blk_drew BK874.out)
 replace BK875 := zA (blk_drew BK875.out)
 replace HB := zA (below_drew1 HB.out)
 refine start_ (n := 7) (S := fun w' => w'.cell? ⟨gb874, 0, none⟩ = some (.int .i64 a0_0) ∧ w'.cell? ⟨gb874, 1, none⟩ = some (.slice A0_1 l0_1.length c0_1) ∧ w'.cell? ⟨gb875, 0, none⟩ = some (.int .i64 a3)) (ds := []) #[false, false, false, false, false, false, false] (by kernel_rfl) rfl rfl ⟨bcu BK874 0, bcu BK874 1, bcu BK875 0⟩ (fun hHeld => ?_)
 generalize w14.drew = w15 at HO879 BK874 BK875 HB hHeld ⊢
 refine pure_ (i := 2) (N := some 25) (v := ?_) (a' := ?_) (bl 7 4) rfl rfl (by kernel_rfl) (fun _ _ _ h => h) (Or.inl ⟨by rfl, ?_⟩) ?_ ?_
 rotate_left
 ·intro w'
  go_simp
  with_reducible rfl
 rotate_left
 ·simp only [Act.put, ls, lz, ln, i64_w, i32_w]
  rfl
 refine take_ (i := 0) (N := some 23) (v := ?_) (a' := ?_) (bl 7 5) rfl rfl (by kernel_rfl) (fun _ _ _ h => h) (Or.inl ⟨by rfl, ?_⟩) hHeld ?_ ?_
 rotate_left
 ·rintro w' ⟨s0, s1, s2⟩
  go_simp
  with_reducible rfl
 rotate_left
 ·simp only [Act.put, ls, lz, ln, i64_w, i32_w]
  rfl
 refine take_ (i := 3) (N := some 26) (v := ?_) (a' := ?_) (bl 7 13) rfl rfl (by kernel_rfl) (fun _ _ _ h => h) (Or.inl ⟨by rfl, ?_⟩) hHeld ?_ ?_
 rotate_left
 ·rintro w' ⟨s0, s1, s2⟩
  go_simp
  with_reducible rfl
 rotate_left
 ·simp only [Act.put, ls, lz, ln, i64_w, i32_w]
  rfl
 refine one_ (i := 1) (N := some 24) (bl 7 15) rfl rfl (by kernel_rfl) (by decide) (fun K hK => ?_)
 refine gS Try.func75 #[.agg #[.int .i64 a0_0, .slice A0_1 l0_1.length c0_1]] ?_
 with_reducible refine (impl_Moments_field.calls a0_0 _ _ l0_1 t881 _ ?side1 ?side2 A8.out).mono ?_
 (case side1 => exact uC ((Kd.C_below HR0_1.out HB.out)))
 (case side2 => exact HC0_1.out)
 rintro e w16 ⟨rfl, hb⟩
 refine ⟨_, rfl, ?_⟩
 replace HO879 := xR HO879 hb
 replace BK874 := xB BK874 hb
 replace BK875 := xB BK875 hb
 replace HB := xH HB hb
 (try clear hb); (try clear hb2); (try clear hk); (try clear hi)
 obtain ⟨Ao17, co17, eo17⟩ := Kd.R_slice HO879.out
 (first | subst eo17 | (injection eo17 with f1_ f2_ f3_; have f4_ := f1_.symm; have f5_ := f3_.symm; clear f1_ f2_ f3_; subst f4_; subst f5_))
 refine hK.out _ _ ⟨bcu BK874 0, bcu BK874 1, bcu BK875 0⟩ (fun hHeld => ?_)
 clear hK K
 refine no_ 24 ?_
 refine one_ (i := 4) (N := some 27) (bl 7 31) rfl rfl (by kernel_rfl) (by decide) (fun K hK => ?_)
 refine gS Try.func110 #[.int .i64 t881, .slice Ao17 t877.length co17, .int .i64 a3] ?_
 with_reducible refine (impl_field_value.calls t881 _ _ t877 a3 t882 _ ?side1 ?side2 A9.out).mono ?_
 (case side1 => exact uC ((Kd.R_reads' HO879.out).2.2))
 (case side2 => exact (Kd.R_reads' HO879.out).2.1)
 rintro e w18 ⟨rfl, hb⟩
 refine ⟨_, rfl, ?_⟩
 replace HO879 := xR HO879 hb
 replace BK874 := xB BK874 hb
 replace BK875 := xB BK875 hb
 replace HB := xH HB hb
 (try clear hb); (try clear hb2); (try clear hk); (try clear hi)
 refine hK.out _ _ ⟨bcu BK874 0, bcu BK874 1, bcu BK875 0⟩ (fun hHeld => ?_)
 clear hK K
 refine no_ 27 ?_
 refine pure_ (i := 5) (N := some 8) (v := ?_) (a' := ?_) (bl 7 63) rfl rfl (by kernel_rfl) (fun _ _ _ h => h) (Or.inl ⟨by rfl, ?_⟩) ?_ ?_
 rotate_left
 ·intro w'
  go_simp
  with_reducible rfl
 rotate_left
 ·simp only [Act.put, ls, lz, ln, i64_w, i32_w]
  rfl
 refine pure_ (i := 6) (N := some 9) (v := ?_) (a' := ?_) (bl 7 127) rfl rfl (by kernel_rfl) (fun _ _ _ h => h) (Or.inl ⟨by rfl, ?_⟩) ?_ ?_
 rotate_left
 ·intro w'
  go_simp
  with_reducible rfl
 rotate_left
 ·simp only [Act.put, ls, lz, ln, i64_w, i32_w]
  rfl
 refine done_ (by kernel_rfl) ?_
 try go_wp2
 go_ret2
 exact ⟨by first | rfl | (simp [errW_none, errW_some] <;> rfl) | (simp [*, errW_none, errW_some] <;> rfl), uH HB.out⟩
/-! ### spec_KernelAt: function 47 -/
def spec_KernelAt.j0 : Nat → Int → List Int → Int → Bool → Int → List Int → Option (Int × Int)
 | 0, _, _, _, _, _, _ => none
 | k + 1, x3, x10, x11, x28, x821000, x821001 => if x28 = true then (if 2 = 0 then ((spec_l01At.f k x821000 x10 x3).bind fun t826 => (some (t826, 0))) else (some (0, 2))) else (if x11 = 0 then ((spec_l01At.f k x821000 x10 x3).bind fun t827 => (some (t827, 0))) else (some (0, x11)))
def spec_KernelAt.f (k : Nat) (a0_0 : Int) (l0_1 : List Int) (a1 : Int) (a2 : Int) (a3 : Int) : Option (Int × Int) := (spec_l04Kernel.f k a0_0 l0_1 a1 a2).bind fun bt821 => (if bt821.2 = 1 then (spec_KernelAt.j0 k a3 bt821.1 bt821.2 false a0_0 l0_1) else ((spec_l01In.f a3 0 (wrap64 (a0_0 - 1))).bind fun t825 => (spec_KernelAt.j0 k a3 bt821.1 bt821.2 (!t825) a0_0 l0_1)))
set_option maxHeartbeats 8000000 in
set_option maxRecDepth 100000 in
theorem spec_KernelAt.calls (k : Nat) (a0_0 : Int) (A0_1 : Option Addr) (c0_1 : Nat) (l0_1 : List Int) (a1 : Int) (a2 : Int) (a3 : Int) (r1 : Int) (r2 : Int) (w : World) (hr0_1 : Kd.C (Kd.int .i64) w A0_1 l0_1.length l0_1) (hc0_1 : l0_1.length ≤ c0_1) (h : spec_KernelAt.f k a0_0 l0_1 a1 a2 a3 = some (r1, r2)) :
  Calls Try.prog 47 #[.agg #[.int .i64 a0_0, .slice A0_1 l0_1.length c0_1], .int .i64 a1, .int .i64 a2, .int .i64 a3] w fun e w' => e = .returned (.tuple #[.int .i64 r1, .int .i64 r2]) ∧ Below w.heap.size w w' := by
 have hu40 := Try.underlying40
 have HR0_1 := zA hr0_1
 have HC0_1 := zA hc0_1
 clear hr0_1 hc0_1
 have HB := zA (Below.refl w.heap.size w)
 have H : ((spec_l04Kernel.f k a0_0 l0_1 a1 a2).bind fun bt821 => (if bt821.2 = 1 then (spec_KernelAt.j0 k a3 bt821.1 bt821.2 false a0_0 l0_1) else ((spec_l01In.f a3 0 (wrap64 (a0_0 - 1))).bind fun t825 => (spec_KernelAt.j0 k a3 bt821.1 bt821.2 (!t825) a0_0 l0_1)))) = some (r1, r2) := h
 clear h
 replace H := Option.bind_eq_some_iff.mp H
 obtain ⟨⟨t821, t824⟩, A50, H⟩ := H
 replace H : (if t824 = 1 then (spec_KernelAt.j0 k a3 t821 t824 false a0_0 l0_1) else ((spec_l01In.f a3 0 (wrap64 (a0_0 - 1))).bind fun t825 => (spec_KernelAt.j0 k a3 t821 t824 (!t825) a0_0 l0_1))) = some (r1, r2) := H
 have A5 := zA A50
 clear A50
 have HC6 := zA H
 clear H
 go_enter Try.func47, Try.ntmps47
 go_upto_region 2 with (first | ((with_reducible refine gate_dst (N := 4) rfl ?_); refine bx 4 #[.int .i64 a0_0, .slice A0_1 l0_1.length c0_1] 40 ?_; intro gb820 hg w7 hbox hb; have BK820 := zA (hbox); have GW820 := gq HB hg; have GE820 := gq HB hg; replace HB := xH HB hb; have := geI GE820; clear hb hbox hg; have hcz8_0 := bc BK820 0; have hcz8_1 := bc BK820 1; have hfz8_0 := bf BK820 0; have hfz8_1 := bf BK820 1) | ((with_reducible refine gate_callee (f := 106) rfl ?_); refine gL (some 16) Try.func106 #[.agg #[.int .i64 a0_0, .slice A0_1 l0_1.length c0_1], .int .i64 a1, .int .i64 a2] ?_; (with_reducible refine (spec_l04Kernel.calls k a0_0 _ _ l0_1 a1 a2 t821 t824 _ ?side1 ?side2 A5.out).mono ?_); (case side1 => exact uC ((Kd.C_below HR0_1.out HB.out))); (case side2 => exact HC0_1.out); rintro e w9 ⟨v822, rfl, ho0, hb⟩; refine ⟨_, rfl, ?_⟩; have HO823 := zA (Kd.R_lower ho0 (below_size (uH HB.out))); replace BK820 := xB BK820 hb; replace HB := xH HB hb; (try clear hb); (try clear hb2); (try clear hk); (try clear hi); (try clear ho0)))
 (try simp only [Act.put, ls, lz, ln])
 go_cut [28] (fun v28 wc => ∃ (kq : Nat) (x28_5 : Bool), v28 = .bool x28_5 ∧ Aside0 (spec_KernelAt.j0 kq a3 t821 t824 x28_5 a0_0 l0_1 = some (r1, r2)) ∧ Aside0 (kq ≤ k) ∧ Aside0 (Kd.R (Kd.int .i64) 2 wc w.heap.size (fun _ => True) v822 t821) ∧ Aside0 (wc.heap[gb820]? = some (.cells #[.int .i64 a0_0, (.slice A0_1 l0_1.length c0_1)] 40 (0, 0))) ∧ Aside0 (Below w.heap.size w wc))
 case first =>
  have H := HC6.out
  clear HC6
  by_cases c10 : t824 = 1
  rotate_left
  ·rw [if_neg c10] at H
   have c10b0 : (t824 == 1) = false := beq_eq_false_iff_ne.mpr c10
   have c10b1 : (t824 != 1) = true := bne_iff_ne.mpr c10
   (first | rw [c10b0] | (simp only [i64_w, i32_w]; rw [c10b0]) | skip)
   replace H := Option.bind_eq_some_iff.mp H
   obtain ⟨t825, A110, H⟩ := H
   replace H : (spec_KernelAt.j0 k a3 t821 t824 (!t825) a0_0 l0_1) = some (r1, r2) := H
   have A11 := zA A110
   clear A110
   have H' := zA H
   clear H
   have hcz12_0 := bc BK820 0
   have hcz12_1 := bc BK820 1
   have hfz12_0 := bf BK820 0
   have hfz12_1 := bf BK820 1
   go_wp2_with (first | (go_at_call 107; (with_reducible refine (spec_l01In.calls a3 0 (wrap64 (a0_0 - 1)) t825 _ A11.out).mono ?_); rintro e w' ⟨rfl, ⟨nd, rfl⟩⟩))
   go_meet
   case rel => exact ⟨_, (!t825), (by first | rfl | (simp; done) | (simp [*]; done)), H', ⟨by first | omega | exact Nat.le_refl _⟩, ⟨uR HO823.out⟩, ⟨uB BK820.out⟩, ⟨uH HB.out⟩⟩
  rw [if_pos c10] at H
  have c10b0 : (t824 == 1) = true := beq_iff_eq.mpr c10
  have c10b1 : (t824 != 1) = false := bne_eq_false_iff_eq.mpr c10
  clear c10
  (first | rw [c10b0] | (simp only [i64_w, i32_w]; rw [c10b0]) | skip)
  have H' := zA H
  clear H
  go_wp2
  go_meet
  case rel => exact ⟨_, (false), (by first | rfl | (simp; done) | (simp [*]; done)), H', ⟨by first | omega | exact Nat.le_refl _⟩, ⟨uR HO823.out⟩, ⟨uB BK820.out⟩, ⟨uH HB.out⟩⟩
 case rest =>
  clear HC6
  (try clear c1);(try clear p2);(try clear c4);(try clear p6);(try clear c10);(try clear c10b0);(try clear c10b1);(try clear hcz12_0);(try clear hcz12_1);(try clear hcz8_0);(try clear hcz8_1);(try clear hfz12_0);(try clear hfz12_1);(try clear hfz8_0);(try clear hfz8_1)
  obtain ⟨kq, x28_5, rfl, HA, HJ5, HO_10, BK820, HB⟩ := hcut
  cases kq with
  | zero => exact absurd HA.out (by simp [spec_KernelAt.j0])
  | succ kj5 =>
   have H := HA.out
   clear HA
   simp only [spec_KernelAt.j0] at H
   by_cases c13 : x28_5 = true
   ·subst c13
    have H1 : (if 2 = 0 then ((spec_l01At.f kj5 a0_0 t821 a3).bind fun t826 => (some (t826, 0))) else (some (0, 2))) = some (r1, r2) := by rw [if_pos rfl] at H; exact H
    clear H
    have H := H1
    clear H1
    by_cases c14 : 2 = 0
    ·exact absurd c14 (by decide)
    ·rw [if_neg c14] at H
     have c14b0 : (2 == 0) = false := beq_eq_false_iff_ne.mpr c14
     have c14b1 : (2 != 0) = true := bne_iff_ne.mpr c14
     simp only [Option.some.injEq, Prod.mk.injEq] at H
     obtain ⟨rfl, rfl⟩ := H
     go_wp2
     go_ret2
     exact ⟨by first | rfl | (simp [errW_none, errW_some] <;> rfl) | (simp [*, errW_none, errW_some] <;> rfl), uH HB.out⟩
   ·replace c13 := Bool.eq_false_iff.mpr c13
    subst c13
    have H1 : (if t824 = 0 then ((spec_l01At.f kj5 a0_0 t821 a3).bind fun t827 => (some (t827, 0))) else (some (0, t824))) = some (r1, r2) := by rw [if_neg (show ¬ (false = true) by decide)] at H; exact H
    clear H
    have H := H1
    clear H1
    by_cases c18 : t824 = 0
    rotate_left
    ·rw [if_neg c18] at H
     have c18b0 : (t824 == 0) = false := beq_eq_false_iff_ne.mpr c18
     have c18b1 : (t824 != 0) = true := bne_iff_ne.mpr c18
     simp only [Option.some.injEq, Prod.mk.injEq] at H
     obtain ⟨rfl, rfl⟩ := H
     go_wp2
     go_ret2
     exact ⟨by first | rfl | (simp [errW_none, errW_some] <;> rfl) | (simp [*, errW_none, errW_some] <;> rfl), uH HB.out⟩

    rw [if_pos c18] at H
    have c18b0 : (t824 == 0) = true := beq_iff_eq.mpr c18
    have c18b1 : (t824 != 0) = false := bne_eq_false_iff_eq.mpr c18
    clear c18
    replace H := Option.bind_eq_some_iff.mp H
    obtain ⟨t827, A190, H⟩ := H
    replace H : (some (t827, 0)) = some (r1, r2) := H
    have A19 := zA A190
    clear A190
    simp only [Option.some.injEq, Prod.mk.injEq] at H
    obtain ⟨rfl, rfl⟩ := H
    have hcz20_0 := bc BK820 0
    have hcz20_1 := bc BK820 1
    have hfz20_0 := bf BK820 0
    have hfz20_1 := bf BK820 1
    obtain ⟨Ao21, co21, eo21⟩ := Kd.R_slice HO_10.out
    subst eo21
    go_wp2_with (first | ((with_reducible refine gate_callee (f := 67) rfl ?_); refine gL (some 36) Try.func67 #[.int .i64 a0_0, .slice Ao21 t821.length co21, .int .i64 a3] ?_; (with_reducible refine (spec_l01At.calls kj5 a0_0 _ _ t821 a3 t827 _ ?side1 ?side2 A19.out).mono ?_); (case side1 => exact uC ((Kd.R_reads' HO_10.out).2.2)); (case side2 => exact (Kd.R_reads' HO_10.out).2.1); rintro e w' ⟨rfl, ⟨nd, rfl⟩⟩; refine ⟨_, rfl, ?_⟩))
    go_ret2
    exact ⟨by first | rfl | (simp [errW_none, errW_some] <;> rfl) | (simp [*, errW_none, errW_some] <;> rfl), uH HB.out⟩
/-! ### laws_FnExactKernelAt: function 11 -/
def laws_FnExactKernelAt.j0 : Nat → Bool → Int → List Int → Int → List Int → Option (Bool)
 | 0, _, _, _, _, _ => none
 | k + 1, x46, x884000, x884001, x896000, x896001 => if x46 = true then (some false) else ((laws_toMoments.f k x884000 x884001).bind fun bt898 => ((laws_eqMoments.f k x896000 x896001 bt898.1 bt898.2).bind fun t902 => (if t902 = true then (some true) else (some false))))
def laws_FnExactKernelAt.f (k : Nat) (a0_0 : Int) (l0_1 : List Int) (a1 : Int) (a2 : Int) (a3 : Int) : Option (Bool) := (laws_szMoments.f a0_0 l0_1 1048576).bind fun t884 => (if t884 < 0 then (some true) else ((laws_toMoments.f k a0_0 l0_1).bind fun bt885 => ((spec_KernelAt.f k bt885.1 bt885.2 a1 a2 a3).bind fun bt889 => ((laws_toMoments.f k a0_0 l0_1).bind fun bt891 => ((impl_KernelAt.f k bt891.1 bt891.2 a1 a2 a3).bind fun bt896 => (if bt896.1 = bt889.1 then (laws_FnExactKernelAt.j0 k (bt896.2 != bt889.2) a0_0 l0_1 bt891.1 bt891.2) else (laws_FnExactKernelAt.j0 k true a0_0 l0_1 bt891.1 bt891.2)))))))
set_option maxHeartbeats 8000000 in
set_option maxRecDepth 100000 in
theorem laws_FnExactKernelAt.calls (k : Nat) (a0_0 : Int) (A0_1 : Option Addr) (c0_1 : Nat) (l0_1 : List Int) (a1 : Int) (a2 : Int) (a3 : Int) (r : Bool) (hr_ : r = true) (w : World) (hr0_1 : Kd.C (Kd.int .i64) w A0_1 l0_1.length l0_1) (hc0_1 : l0_1.length ≤ c0_1) (h : laws_FnExactKernelAt.f k a0_0 l0_1 a1 a2 a3 = some r) :
  Calls Try.prog 11 #[.agg #[.int .i64 a0_0, .slice A0_1 l0_1.length c0_1], .int .i64 a1, .int .i64 a2, .int .i64 a3] w fun e w' => e = .returned (.bool r) ∧ Below w.heap.size w w' := by
 have hu34 := Try.underlying34
 have hu40 := Try.underlying40
 have HRT := zA hr_
 clear hr_
 have HR0_1 := zA hr0_1
 have HC0_1 := zA hc0_1
 clear hr0_1 hc0_1
 have HB := zA (Below.refl w.heap.size w)
 have H : ((laws_szMoments.f a0_0 l0_1 1048576).bind fun t884 => (if t884 < 0 then (some true) else ((laws_toMoments.f k a0_0 l0_1).bind fun bt885 => ((spec_KernelAt.f k bt885.1 bt885.2 a1 a2 a3).bind fun bt889 => ((laws_toMoments.f k a0_0 l0_1).bind fun bt891 => ((impl_KernelAt.f k bt891.1 bt891.2 a1 a2 a3).bind fun bt896 => (if bt896.1 = bt889.1 then (laws_FnExactKernelAt.j0 k (bt896.2 != bt889.2) a0_0 l0_1 bt891.1 bt891.2) else (laws_FnExactKernelAt.j0 k true a0_0 l0_1 bt891.1 bt891.2)))))))) = some r := h
 clear h
 replace H := Option.bind_eq_some_iff.mp H
 obtain ⟨t884, A50, H⟩ := H
 replace H : (if t884 < 0 then (some true) else ((laws_toMoments.f k a0_0 l0_1).bind fun bt885 => ((spec_KernelAt.f k bt885.1 bt885.2 a1 a2 a3).bind fun bt889 => ((laws_toMoments.f k a0_0 l0_1).bind fun bt891 => ((impl_KernelAt.f k bt891.1 bt891.2 a1 a2 a3).bind fun bt896 => (if bt896.1 = bt889.1 then (laws_FnExactKernelAt.j0 k (bt896.2 != bt889.2) a0_0 l0_1 bt891.1 bt891.2) else (laws_FnExactKernelAt.j0 k true a0_0 l0_1 bt891.1 bt891.2))))))) = some r := H
 have A5 := zA A50
 clear A50
 by_cases c6 : t884 < 0
 rotate_left
 ·rw [if_neg c6] at H
  have c6b0 : decide (t884 < 0) = false := decide_eq_false c6
  clear c6
  replace H := Option.bind_eq_some_iff.mp H
  obtain ⟨⟨t885, t886⟩, A100, H⟩ := H
  replace H : ((spec_KernelAt.f k t885 t886 a1 a2 a3).bind fun bt889 => ((laws_toMoments.f k a0_0 l0_1).bind fun bt891 => ((impl_KernelAt.f k bt891.1 bt891.2 a1 a2 a3).bind fun bt896 => (if bt896.1 = bt889.1 then (laws_FnExactKernelAt.j0 k (bt896.2 != bt889.2) a0_0 l0_1 bt891.1 bt891.2) else (laws_FnExactKernelAt.j0 k true a0_0 l0_1 bt891.1 bt891.2))))) = some r := H
  have A10 := zA A100
  clear A100
  replace H := Option.bind_eq_some_iff.mp H
  obtain ⟨⟨t889, t890⟩, A110, H⟩ := H
  replace H : ((laws_toMoments.f k a0_0 l0_1).bind fun bt891 => ((impl_KernelAt.f k bt891.1 bt891.2 a1 a2 a3).bind fun bt896 => (if bt896.1 = t889 then (laws_FnExactKernelAt.j0 k (bt896.2 != t890) a0_0 l0_1 bt891.1 bt891.2) else (laws_FnExactKernelAt.j0 k true a0_0 l0_1 bt891.1 bt891.2)))) = some r := H
  have A11 := zA A110
  clear A110
  replace H := Option.bind_eq_some_iff.mp H
  obtain ⟨⟨t891, t892⟩, A120, H⟩ := H
  replace H : ((impl_KernelAt.f k t891 t892 a1 a2 a3).bind fun bt896 => (if bt896.1 = t889 then (laws_FnExactKernelAt.j0 k (bt896.2 != t890) a0_0 l0_1 t891 t892) else (laws_FnExactKernelAt.j0 k true a0_0 l0_1 t891 t892))) = some r := H
  have A12 := zA A120
  clear A120
  replace H := Option.bind_eq_some_iff.mp H
  obtain ⟨⟨t896, t897⟩, A130, H⟩ := H
  replace H : (if t896 = t889 then (laws_FnExactKernelAt.j0 k (t897 != t890) a0_0 l0_1 t891 t892) else (laws_FnExactKernelAt.j0 k true a0_0 l0_1 t891 t892)) = some r := H
  have A13 := zA A130
  clear A130
  have HC14 := zA H
  clear H
  go_enter Try.func11, Try.ntmps11
  go_upto_region 8 with (first | ((with_reducible refine gate_dst (N := 4) rfl ?_); refine bx 4 #[.int .i64 a0_0, .slice A0_1 l0_1.length c0_1] 34 ?_; intro gb883 hg w15 hbox hb; have BK883 := zA (hbox); have GW883 := gq HB hg; have GE883 := gq HB hg; replace HB := xH HB hb; have := geI GE883; clear hb hbox hg; have hcz16_0 := bc BK883 0; have hcz16_1 := bc BK883 1; have hfz16_0 := bf BK883 0; have hfz16_1 := bf BK883 1) | ((with_reducible refine gate_callee (f := 22) rfl ?_); refine gL (some 17) Try.func22 #[.agg #[.int .i64 a0_0, .slice A0_1 l0_1.length c0_1], .int .i64 1048576] ?_; (with_reducible refine (laws_szMoments.calls a0_0 _ _ l0_1 1048576 t884 _ ?side1 ?side2 A5.out).mono ?_); (case side1 => exact uC ((Kd.C_below HR0_1.out HB.out))); (case side2 => exact HC0_1.out); rintro e w17 ⟨rfl, hb⟩; refine ⟨_, rfl, ?_⟩; replace BK883 := xB BK883 hb; replace HB := xH HB hb; (try clear hb); (try clear hb2); (try clear hk); (try clear hi); have hcz18_0 := bc BK883 0; have hcz18_1 := bc BK883 1; have hfz18_0 := bf BK883 0; have hfz18_1 := bf BK883 1) | ((with_reducible refine gate_callee (f := 24) rfl ?_); refine gL (some 22) Try.func24 #[.agg #[.int .i64 a0_0, .slice A0_1 l0_1.length c0_1]] ?_; (with_reducible refine (laws_toMoments.calls k a0_0 _ _ l0_1 t885 t886 _ ?side1 ?side2 A10.out).mono ?_); (case side1 => exact uC ((Kd.C_below HR0_1.out HB.out))); (case side2 => exact HC0_1.out); rintro e w19 ⟨v887, rfl, ho0, hb⟩; refine ⟨_, rfl, ?_⟩; have HO888 := zA (Kd.R_lower ho0 (below_size (uH HB.out))); replace BK883 := xB BK883 hb; replace HB := xH HB hb; (try clear hb); (try clear hb2); (try clear hk); (try clear hi); (try clear ho0); obtain ⟨Ao20, co20, eo20⟩ := Kd.R_slice HO888.out; subst eo20) | ((with_reducible refine gate_callee (f := 47) rfl ?_); refine gL (some 26) Try.func47 #[.agg #[.int .i64 t885, .slice Ao20 t886.length co20], .int .i64 a1, .int .i64 a2, .int .i64 a3] ?_; (with_reducible refine (spec_KernelAt.calls k t885 _ _ t886 a1 a2 a3 t889 t890 _ ?side1 ?side2 A11.out).mono ?_); (case side1 => exact uC ((Kd.R_reads' HO888.out).2.2)); (case side2 => exact (Kd.R_reads' HO888.out).2.1); rintro e w21 ⟨rfl, hb⟩; refine ⟨_, rfl, ?_⟩; replace HO888 := xR HO888 hb; replace BK883 := xB BK883 hb; replace HB := xH HB hb; (try clear hb); (try clear hb2); (try clear hk); (try clear hi); have hcz22_0 := bc BK883 0; have hcz22_1 := bc BK883 1; have hfz22_0 := bf BK883 0; have hfz22_1 := bf BK883 1) | ((with_reducible refine gate_callee (f := 24) rfl ?_); refine gL (some 30) Try.func24 #[.agg #[.int .i64 a0_0, .slice A0_1 l0_1.length c0_1]] ?_; (with_reducible refine (laws_toMoments.calls k a0_0 _ _ l0_1 t891 t892 _ ?side1 ?side2 A12.out).mono ?_); (case side1 => exact uC ((Kd.C_below HR0_1.out HB.out))); (case side2 => exact HC0_1.out); rintro e w23 ⟨v893, rfl, ho0, hb⟩; refine ⟨_, rfl, ?_⟩; have HO894 := zA (Kd.R_lower (Kd.R_new' ho0 (Kd.R_lt (uR HO888.out))) (below_size (uH HB.out))); replace HO888 := zA (Kd.R_elder' (uR HO888.out) (Kd.R_base ho0) hb); replace BK883 := xB BK883 hb; replace HB := xH HB hb; (try clear hb); (try clear hb2); (try clear hk); (try clear hi); (try clear ho0)) | ((with_reducible refine gate_dst (N := 12) rfl ?_); refine bx 12 #[.int .i64 0, .slice none 0 0] 40 ?_; intro gb895 hg w24 hbox hb; replace HO888 := xR HO888 hb; replace HO894 := xR HO894 hb; have BK895 := zA (hbox); have GW895 := gq HB hg; have GE895 := gq HB hg; replace HB := xH HB hb; have NB883_895 := zA ((by rw [hg]; exact neL BK883 : gb883 ≠ gb895)); have NB895_883 := zA ((by rw [hg]; exact neG BK883 : gb895 ≠ gb883)); replace BK883 := xB BK883 hb; have := geI GE895; clear hb hbox hg; have hnb25 := NB895_883.out; have hnc25 := NB883_895.out; have hcz26_0 := bc BK895 0; have hcz26_1 := bc BK895 1; have hfz26_0 := bf BK895 0; have hfz26_1 := bf BK895 1; obtain ⟨Ao27, co27, eo27⟩ := Kd.R_slice HO894.out; subst eo27) | ((with_reducible refine gate_callee (f := 48) rfl ?_); refine gL (some 36) Try.func48 #[.agg #[.int .i64 t891, .slice Ao27 t892.length co27], .int .i64 a1, .int .i64 a2, .int .i64 a3] ?_; (with_reducible refine (impl_KernelAt.calls k t891 _ _ t892 a1 a2 a3 t896 t897 _ ?side1 ?side2 A13.out).mono ?_); (case side1 => refine (Kd.R_reads' (e := 2) (base := w.heap.size) (ok := fun k_ => (True ∧ ax k_ (.slice Ao20 t886.length co20))) (n := t892.length) (c := co27) ?_).2.2; exact (uR ((rf2 HO894 BK895 (by decide) (.int .i64 t891) (.slice Ao27 t892.length co27))))); (case side2 => exact (Kd.R_reads' HO894.out).2.1); rintro e w28 ⟨rfl, hb⟩; refine ⟨_, rfl, ?_⟩; replace HO888 := zA (Kd.R_below (uR ((rf2 HO888 BK895 (by decide) (.int .i64 t891) (.slice Ao27 t892.length co27)))) hb); replace HO894 := zA (Kd.R_below (uR ((rf2 HO894 BK895 (by decide) (.int .i64 t891) (.slice Ao27 t892.length co27)))) hb); replace BK883 := zA (blk_below (g := gb883) (o := .cells #[.int .i64 a0_0, .slice A0_1 l0_1.length c0_1] 34 (0, 0)) (by (repeat refine up1 ?_); refine blk_far ?_ NB883_895.out _; (repeat refine up1 ?_); refine blk_far ?_ NB883_895.out _; (repeat refine up1 ?_); exact BK883.out) hb); replace BK895 := zA (blk_below (g := gb895) (o := .cells #[.int .i64 t891, .slice Ao27 t892.length co27] 40 (0, 0)) (by (repeat refine up1 ?_); refine blk_put (cs := #[.int .i64 t891, .slice none 0 0]) ?_ 1 _ rfl; (repeat refine up1 ?_); refine blk_put (cs := #[.int .i64 0, .slice none 0 0]) ?_ 0 _ rfl; (repeat refine up1 ?_); exact BK895.out) hb); replace HB := xH HB hb; (try clear hb); (try clear hb2); (try clear hk); (try clear hi)))
  (try simp only [Act.put, ls, lz, ln])
  go_cut [46] (fun v46 wc => ∃ (kq : Nat) (x46_13 : Bool), v46 = .bool x46_13 ∧ Aside0 (laws_FnExactKernelAt.j0 kq x46_13 a0_0 l0_1 t891 t892 = some r) ∧ Aside0 (kq ≤ k) ∧ Aside0 (Kd.R (Kd.int .i64) 2 wc w.heap.size (fun _ => True) (.slice Ao27 t892.length co27) t892) ∧ Aside0 (wc.heap[gb883]? = some (.cells #[.int .i64 a0_0, (.slice A0_1 l0_1.length c0_1)] 34 (0, 0))) ∧ Aside0 (wc.heap[gb895]? = some (.cells #[.int .i64 t891, (.slice Ao27 t892.length co27)] 40 (0, 0))) ∧ Aside0 (Below w.heap.size w wc))
  case first =>
   have H := HC14.out
   clear HC14
   by_cases c29 : t896 = t889
   rotate_left
   ·rw [if_neg c29] at H
    have c29b0 : (t896 == t889) = false := beq_eq_false_iff_ne.mpr c29
    have c29b1 : (t896 != t889) = true := bne_iff_ne.mpr c29
    (first | rw [c29b0] | (simp only [i64_w, i32_w]; rw [c29b0]) | skip)
    have H' := zA H
    clear H
    go_wp2
    go_meet
    case rel => exact ⟨_, (true), (by first | rfl | (simp; done) | (simp [*]; done)), H', ⟨by first | omega | exact Nat.le_refl _⟩, ⟨uR (Kd.R_mono HO894.out (fun _ hk => trivial))⟩, ⟨uB BK883.out⟩, ⟨uB BK895.out⟩, ⟨uH HB.out⟩⟩
   rw [if_pos c29] at H
   have c29b0 : (t896 == t889) = true := beq_iff_eq.mpr c29
   have c29b1 : (t896 != t889) = false := bne_eq_false_iff_eq.mpr c29
   clear c29
   (first | rw [c29b0] | (simp only [i64_w, i32_w]; rw [c29b0]) | skip)
   have H' := zA H
   clear H
   go_wp2
   go_meet
   case rel => exact ⟨_, ((t897 != t890)), (by first | rfl | (simp; done) | (simp [*]; done)), H', ⟨by first | omega | exact Nat.le_refl _⟩, ⟨uR (Kd.R_mono HO894.out (fun _ hk => trivial))⟩, ⟨uB BK883.out⟩, ⟨uB BK895.out⟩, ⟨uH HB.out⟩⟩
  case rest =>
   clear HC14
   (try clear c1);(try clear c2);(try clear p2);(try clear c4);(try clear c6);(try clear c6b0);(try clear c11);(try clear c22);(try clear c24);(try clear c25);(try clear c29);(try clear c29b0);(try clear c29b1);(try clear hcz16_0);(try clear hcz16_1);(try clear hcz18_0);(try clear hcz18_1);(try clear hcz22_0);(try clear hcz22_1);(try clear hcz26_0);(try clear hcz26_1);(try clear hcz8_0);(try clear hcz8_1)
   (try clear hfz16_0);(try clear hfz16_1);(try clear hfz18_0);(try clear hfz18_1);(try clear hfz22_0);(try clear hfz22_1);(try clear hfz26_0);(try clear hfz26_1);(try clear hfz8_0);(try clear hfz8_1)
   obtain ⟨kq, x46_13, rfl, HA, HJ13, HO_896001, BK883, BK895, HB⟩ := hcut
   cases kq with
   | zero => exact absurd HA.out (by simp [laws_FnExactKernelAt.j0])
   | succ kj13 =>
    have H := HA.out
    clear HA
    simp only [laws_FnExactKernelAt.j0] at H
    by_cases c30 : x46_13 = true
    ·subst c30
     have H1 : (some false) = some r := by rw [if_pos rfl] at H; exact H
     clear H
     have H := H1
     clear H1
     rw [HRT.out] at H
     exact absurd H (by simp)
    ·replace c30 := Bool.eq_false_iff.mpr c30
     subst c30
     have H1 : ((laws_toMoments.f kj13 a0_0 l0_1).bind fun bt898 => ((laws_eqMoments.f kj13 t891 t892 bt898.1 bt898.2).bind fun t902 => (if t902 = true then (some true) else (some false)))) = some r := by rw [if_neg (show ¬ (false = true) by decide)] at H; exact H
     clear H
     have H := H1
     clear H1
     replace H := Option.bind_eq_some_iff.mp H
     obtain ⟨⟨t898, t899⟩, A310, H⟩ := H
     replace H : ((laws_eqMoments.f kj13 t891 t892 t898 t899).bind fun t902 => (if t902 = true then (some true) else (some false))) = some r := H
     have A31 := zA A310
     clear A310
     replace H := Option.bind_eq_some_iff.mp H
     obtain ⟨t902, A320, H⟩ := H
     replace H : (if t902 = true then (some true) else (some false)) = some r := H
     have A32 := zA A320
     clear A320
     by_cases c33 : t902 = true
     ·subst c33
      have H1 : (some true) = some r := by rw [if_pos rfl] at H; exact H
      clear H
      have H := H1
      clear H1
      obtain rfl := Option.some.inj H
      try go_wp2
      replace HO_896001 := zA (Kd.R_drew HO_896001.out)
      replace BK883 := zA (blk_drew BK883.out)
      replace BK895 := zA (blk_drew BK895.out)
      replace HB := zA (below_drew1 HB.out)
      refine start_ (n := 5) (S := fun w' => w'.cell? ⟨gb895, 0, none⟩ = some (.int .i64 t891) ∧ w'.cell? ⟨gb895, 1, none⟩ = some (.slice Ao27 t892.length co27) ∧ w'.cell? ⟨gb883, 0, none⟩ = some (.int .i64 a0_0) ∧ w'.cell? ⟨gb883, 1, none⟩ = some (.slice A0_1 l0_1.length c0_1)) (ds := []) #[false, false, false, false, false] (by kernel_rfl) rfl rfl ⟨bcu BK895 0, bcu BK895 1, bcu BK883 0, bcu BK883 1⟩ (fun hHeld => ?_)
      generalize wc.drew = w34 at HO_896001 BK883 BK895 HB hHeld ⊢
      refine take_ (i := 0) (N := some 47) (v := ?_) (a' := ?_) (bl 5 1) rfl rfl (by kernel_rfl) (fun _ _ _ h => h) (Or.inl ⟨by rfl, ?_⟩) hHeld ?_ ?_
      rotate_left
      ·rintro w' ⟨s0, s1, s2, s3⟩
       go_simp
       with_reducible rfl
      rotate_left
      ·simp only [Act.put, ls, lz, ln, i64_w, i32_w]
       rfl
      refine take_ (i := 1) (N := some 48) (v := ?_) (a' := ?_) (bl 5 3) rfl rfl (by kernel_rfl) (fun _ _ _ h => h) (Or.inl ⟨by rfl, ?_⟩) hHeld ?_ ?_
      rotate_left
      ·rintro w' ⟨s0, s1, s2, s3⟩
       go_simp
       with_reducible rfl
      rotate_left
      ·simp only [Act.put, ls, lz, ln, i64_w, i32_w]
       rfl
      refine one_ (i := 2) (N := some 49) (bl 5 7) rfl rfl (by kernel_rfl) (by decide) (fun K hK => ?_)
      refine gS Try.func24 #[.agg #[.int .i64 a0_0, .slice A0_1 l0_1.length c0_1]] ?_
      with_reducible refine (laws_toMoments.calls kj13 a0_0 _ _ l0_1 t898 t899 _ ?side1 ?side2 A31.out).mono ?_
      (case side1 => exact uC ((Kd.C_below HR0_1.out HB.out)))
      (case side2 => exact HC0_1.out)
      rintro e w35 ⟨v900, rfl, ho0, hb⟩
      refine ⟨_, rfl, ?_⟩
      have HO901 := zA (Kd.R_lower (Kd.R_new' ho0 (Kd.R_lt (uR HO_896001.out))) (below_size (uH HB.out)))
      replace HO_896001 := zA (Kd.R_elder' (uR HO_896001.out) (Kd.R_base ho0) hb)
      replace BK883 := xB BK883 hb
      replace BK895 := xB BK895 hb
      replace HB := xH HB hb
      (try clear hb); (try clear hb2); (try clear hk); (try clear hi); (try clear ho0)
      obtain ⟨Ao36, co36, eo36⟩ := Kd.R_slice HO901.out
      (first | subst eo36 | (injection eo36 with f1_ f2_ f3_; have f4_ := f1_.symm; have f5_ := f3_.symm; clear f1_ f2_ f3_; subst f4_; subst f5_))
      refine hK.out _ _ ⟨bcu BK895 0, bcu BK895 1, bcu BK883 0, bcu BK883 1⟩ (fun hHeld => ?_)
      clear hK K
      refine no_ 49 ?_
      refine one_ (i := 3) (N := some 50) (bl 5 15) rfl rfl (by kernel_rfl) (by decide) (fun K hK => ?_)
      refine gS Try.func28 #[.agg #[.int .i64 t891, .slice Ao27 t892.length co27], .agg #[.int .i64 t898, .slice Ao36 t899.length co36]] ?_
      with_reducible refine (laws_eqMoments.calls kj13 t891 _ _ t892 t898 _ _ t899 true _ ?side1 ?side2 ?side3 ?side4 A32.out).mono ?_
      (case side1 => exact uC ((Kd.R_reads' HO_896001.out).2.2))
      (case side2 => exact (Kd.R_reads' HO_896001.out).2.1)
      (case side3 => exact uC ((Kd.R_reads' HO901.out).2.2))
      (case side4 => exact (Kd.R_reads' HO901.out).2.1)
      rintro e w37 ⟨rfl, hb⟩
      refine ⟨_, rfl, ?_⟩
      replace HO_896001 := xR HO_896001 hb
      replace HO901 := xR HO901 hb
      replace BK883 := xB BK883 hb
      replace BK895 := xB BK895 hb
      replace HB := xH HB hb
      (try clear hb); (try clear hb2); (try clear hk); (try clear hi)
      refine hK.out _ _ ⟨bcu BK895 0, bcu BK895 1, bcu BK883 0, bcu BK883 1⟩ (fun hHeld => ?_)
      clear hK K
      refine no_ 50 ?_
      refine pure_ (i := 4) (N := some 51) (v := ?_) (a' := ?_) (bl 5 31) rfl rfl (by kernel_rfl) (fun _ _ _ h => h) (Or.inl ⟨by rfl, ?_⟩) ?_ ?_
      rotate_left
      ·intro w'
       go_simp
       with_reducible rfl
      rotate_left
      ·simp only [Act.put, ls, lz, ln, i64_w, i32_w]
       rfl
      refine done_ (by kernel_rfl) ?_
      try go_wp2
      go_ret
      exact ⟨by first | rfl | (simp [errW_none, errW_some] <;> rfl) | (simp [*, errW_none, errW_some] <;> rfl), uH HB.out⟩
     ·replace c33 := Bool.eq_false_iff.mpr c33
      subst c33
      have H1 : (some false) = some r := by rw [if_neg (show ¬ (false = true) by decide)] at H; exact H
      clear H
      have H := H1
      clear H1
      rw [HRT.out] at H
      exact absurd H (by simp)

 rw [if_pos c6] at H
 have c6b0 : decide (t884 < 0) = true := decide_eq_true c6
 clear c6
 obtain rfl := Option.some.inj H
 go_enter Try.func11, Try.ntmps11
 go_wp2_with (first | ((with_reducible refine gate_dst (N := 4) rfl ?_); refine bx 4 #[.int .i64 a0_0, .slice A0_1 l0_1.length c0_1] 34 ?_; intro gb883 hg w7 hbox hb; have BK883 := zA (hbox); have GW883 := gq HB hg; have GE883 := gq HB hg; replace HB := xH HB hb; have := geI GE883; clear hb hbox hg; have hcz8_0 := bc BK883 0; have hcz8_1 := bc BK883 1; have hfz8_0 := bf BK883 0; have hfz8_1 := bf BK883 1) | ((with_reducible refine gate_callee (f := 22) rfl ?_); refine gL (some 17) Try.func22 #[.agg #[.int .i64 a0_0, .slice A0_1 l0_1.length c0_1], .int .i64 1048576] ?_; (with_reducible refine (laws_szMoments.calls a0_0 _ _ l0_1 1048576 t884 _ ?side1 ?side2 A5.out).mono ?_); (case side1 => exact uC ((Kd.C_below HR0_1.out HB.out))); (case side2 => exact HC0_1.out); rintro e w9 ⟨rfl, hb⟩; refine ⟨_, rfl, ?_⟩; replace BK883 := xB BK883 hb; replace HB := xH HB hb; (try clear hb); (try clear hb2); (try clear hk); (try clear hi)))
 go_ret
 exact ⟨by first | rfl | (simp [errW_none, errW_some] <;> rfl) | (simp [*, errW_none, errW_some] <;> rfl), uH HB.out⟩
/-- THE ONE PURE STATEMENT of laws_FnExactKernelAt: yours. -/
def laws_FnExactKernelAt.Pure : Prop := ∀ (a0_0 : Int) (l0_1 : List Int) (a1 : Int) (a2 : Int) (a3 : Int), (Lit.int .i64 a0_0).wf = true → l0_1.length ≤ maxLen → (∀ x ∈ l0_1, (Lit.int .i64 x).wf = true) → (Lit.int .i64 a1).wf = true → (Lit.int .i64 a2).wf = true → (Lit.int .i64 a3).wf = true → ∃ k, laws_FnExactKernelAt.f k a0_0 l0_1 a1 a2 a3 = some true
theorem laws_FnExactKernelAt.walk (P : laws_FnExactKernelAt.Pure) (a0_0 : Int) (a0_1 : Option Addr) (len0_1 cap0_1 : Nat) (z0_1 : List Int) (a1 : Int) (a2 : Int) (a3 : Int) (w : World) (w0_0 : (Lit.int .i64 a0_0).wf = true) (w0_1 : (a0_1 = none ∧ len0_1 = 0 ∧ cap0_1 = 0 ∧ z0_1 = []) ∨ ∃ x, a0_1 = some x ∧ len0_1 ≤ cap0_1 ∧ cap0_1 ≤ maxLen ∧ z0_1.length = cap0_1 ∧ (∀ i, i < z0_1.length → w.cell? (x.add i) = some (.int .i64 (z0_1.getD i 0))) ∧ ∀ n ∈ z0_1, (Lit.int .i64 n).wf = true) (w1 : (Lit.int .i64 a1).wf = true) (w2 : (Lit.int .i64 a2).wf = true) (w3 : (Lit.int .i64 a3).wf = true) :
  Calls Try.prog 11 #[.agg #[.int .i64 a0_0, .slice a0_1 len0_1 cap0_1], .int .i64 a1, .int .i64 a2, .int .i64 a3] w fun e w' => e = .returned (.bool true) ∧ Below w.heap.size w w' := by
 obtain ⟨l0_1, rfl, hr0_1, hm0_1, hw0_1, hc0_1⟩ := ReadsInt.ofRowC w0_1
 obtain ⟨k, h⟩ := P a0_0 l0_1 a1 a2 a3 w0_0 hm0_1 hw0_1 w1 w2 w3
 refine (laws_FnExactKernelAt.calls k a0_0 _ _ l0_1 a1 a2 a3 true rfl w (Kd.C_of_reads (d := (0 : Int)) (h1 := fun _ => rfl) hr0_1) hc0_1 h).mono ?_
 rintro e w' ⟨rfl, hd⟩
 exact ⟨rfl, hd⟩
/- KernelAt: for all arguments the program and the reference come to one value; no condition. -/
theorem KernelAt_both (p : Int) (l : List Int) (n a b : Int) (hl : Sm l.length) : ∃ v : Int × Int, Ev (fun k => spec_KernelAt.f k p l n a b) v ∧ Ev (fun k => impl_KernelAt.f k p l n a b) v := by
  have hc := implKernelOf_ev p l hl n a (decide (0 ≤ b ∧ b < p)) [] (by simp [Sm]) (fun l h => by cases h)
  have hs := specKernel_ev p l hl n a
  rw [List.all_nil, Bool.and_true] at hc
  have h1 : impl_KernelAt_1.f p l b = some (decide (0 ≤ b ∧ b < p)) := by
    unfold impl_KernelAt_1.f
    show (impl_field_has.f p b).bind _ = _
    rw [has_eq]; rfl
  by_cases h : momB p l = true
  · rw [if_pos h] at hc hs
    have hp := momB.pm h
    have nl := momB.nm h
    have hlen := momB.len h
    have hw : wrap64 (p - 1) = p - 1 := by have := hp.two; have := hp.top; exact wrap_id (by omega) (by omega)
    have ein : spec_l01In.f b 0 (wrap64 (p - 1)) = some (decide (0 ≤ b ∧ b < p)) := by
      rw [hw, in_eq]
      congr 1
      rw [decide_eq_decide]
      omega
    by_cases hr : kerR p n a
    · rw [if_pos hr] at hs
      have hcode := kerV_code p l n.toNat a
      obtain ⟨k, rfl⟩ := Int.eq_ofNat_of_zero_le hr.1.1
      rw [toNat_nat] at hs hcode hc
      by_cases hb : 0 ≤ b ∧ b < p
      · rw [decide_eq_true hb] at hc h1 ein
        rw [if_pos ⟨hr, rfl⟩] at hc
        have h11 := hr.1.2
        have hkl := kerP_len hp l k a
        rcases hcode with ⟨h0, c, hk⟩ | h5
        · refine ⟨(valF p b (kerP p l k a), 0), ?_, ?_⟩
          · unfold spec_KernelAt.f
            refine Ev.bind hs ?_
            rw [h0, hk]
            refine Ev.neg (by decide) (Ev.bindE ein (Ev.step (fun k => by rw [spec_KernelAt.j0]) ?_))
            exact Ev.neg (by decide) (Ev.pos rfl (Ev.bind (specAt_ev hp hb _ (kerP_nm hp l k a) (by unfold Sm; omega)) (Ev.now _)))
          · unfold impl_KernelAt.f
            refine Ev.bindE h1 (Ev.bind hc ?_)
            rw [h0, hk]
            exact Ev.pos rfl (Ev.bindE (a := p) rfl (Ev.bindE (implValue_eq hp hb _ (kerP_nm hp l k a) (by unfold Sm; omega)) (Ev.now _)))
        · refine ⟨(0, 5), ?_, ?_⟩
          · unfold spec_KernelAt.f
            refine Ev.bind hs ?_
            rw [h5]
            refine Ev.neg (by decide) (Ev.bindE ein (Ev.step (fun k => by rw [spec_KernelAt.j0]) ?_))
            exact Ev.neg (by decide) (Ev.neg (by decide) (Ev.now _))
          · unfold impl_KernelAt.f
            refine Ev.bindE h1 (Ev.bind hc ?_)
            rw [h5]
            exact Ev.neg (by decide) (Ev.now _)
      · rw [decide_eq_false hb] at hc h1 ein
        rw [if_neg (fun g => by cases g.2)] at hc
        refine ⟨(0, 2), ?_, ?_⟩
        · unfold spec_KernelAt.f
          refine Ev.bind hs (Ev.neg (by rcases hcode with ⟨h0, _⟩ | h5 <;> omega) (Ev.bindE ein (Ev.step (fun k => by rw [spec_KernelAt.j0]) ?_)))
          exact Ev.pos rfl (Ev.neg (by decide) (Ev.now _))
        · unfold impl_KernelAt.f
          exact Ev.bindE h1 (Ev.bind hc (Ev.neg (by simp) (Ev.now _)))
    · rw [if_neg hr] at hs
      rw [if_neg (fun g => hr g.1)] at hc
      refine ⟨(0, 2), ?_, ?_⟩
      · unfold spec_KernelAt.f
        refine Ev.bind hs (Ev.neg (by simp) (Ev.bindE ein (Ev.step (fun k => by rw [spec_KernelAt.j0]) ?_)))
        by_cases hb : 0 ≤ b ∧ b < p
        · rw [decide_eq_true hb]
          exact Ev.neg (by decide) (Ev.neg (by simp) (Ev.now _))
        · rw [decide_eq_false hb]
          exact Ev.pos rfl (Ev.neg (by decide) (Ev.now _))
      · unfold impl_KernelAt.f
        exact Ev.bindE h1 (Ev.bind hc (Ev.neg (by simp) (Ev.now _)))
  · rw [if_neg h] at hc hs
    refine ⟨(0, 1), ?_, ?_⟩
    · unfold spec_KernelAt.f
      refine Ev.bind hs (Ev.pos rfl (Ev.step (fun k => by rw [spec_KernelAt.j0]) ?_))
      exact Ev.neg (by decide) (Ev.neg (by simp) (Ev.now _))
    · unfold impl_KernelAt.f
      exact Ev.bindE h1 (Ev.bind hc (Ev.neg (by simp) (Ev.now _)))
end Go.Proofs.Ytfbnkebgdmfcfaa.Pr
namespace Go.Proofs.Ytfbnkebgdmfcfaa.Pure
/- FnExactKernelAt: for every input the law answers true: the program's KernelAt and the reference's come to one value, and the law's own copies, marks and comparisons answer as they have to. No condition. -/
open Go.RowKit Go.Proofs.Ytfbnkebgdmfcfaa.Pr Go.Proofs.YtfbnkebgdmfcfaaW.PrintWords Go.Proofs.YtfbnkebgdmfcfaaW.PrintLast
theorem FnExactKernelAt : laws_FnExactKernelAt.Pure := by
  intro a0_0 l0_1 a1 a2 a3 w0_0 ml0_1 wl0_1 w1 w2 w3
  have main : Ev (fun k => laws_FnExactKernelAt.f k a0_0 l0_1 a1 a2 a3) true := by
    unfold laws_FnExactKernelAt.f
    by_cases z0 : l0_1.length ≤ 1048576
    case neg => exact Ev.bindE (szMoments_no _ l0_1 (by unfold maxLen at ml0_1; omega) (1048576) (by omega) (by omega)) (Ev.pos (by omega) (Ev.now _))
    refine Ev.bindE (szMoments_yes _ l0_1 (1048576) (by omega) z0) (Ev.neg (by omega) ?_)
    have sl0_1 : Sm l0_1.length := by unfold Sm; omega
    have bw0_0 := wf64 w0_0
    have bw1 := wf64 w1
    have bw2 := wf64 w2
    have bw3 := wf64 w3
    obtain ⟨v, hspec, himpl⟩ := KernelAt_both a0_0 l0_1 a1 a2 a3 sl0_1
    repeat' first
      | exact Ev.now _
      | refine Ev.bind hspec ?_
      | refine Ev.bind himpl ?_
      | refine Ev.bind (toMoments_ev _ _ (by first | assumption | (rw [marks_length]; assumption))) ?_
      | refine Ev.bind (eqMoments_ev _ _ (by first | assumption | (rw [marks_length]; assumption))) ?_
      | refine Ev.pos (by first | rfl | omega | (dsimp only; omega)) ?_
      | refine Ev.neg (by first | exact ne_self _ | omega | (dsimp only; omega) | decide) ?_
      | refine Ev.step (fun k => by rw [laws_FnExactKernelAt.j0]) ?_
      | refine Ev.step (fun k => by rw [laws_FnExactKernelAt.j1]) ?_
      | refine Ev.step (fun k => by rw [laws_FnExactKernelAt.j2]) ?_
      | refine Ev.step (fun k => by rw [laws_FnExactKernelAt.j3]) ?_
      | refine Ev.step (fun k => by rw [laws_FnExactKernelAt.j4]) ?_
      | refine Ev.step (fun k => by rw [laws_FnExactKernelAt.j5]) ?_
  exact main.rounds
end Go.Proofs.Ytfbnkebgdmfcfaa.Pure
namespace Go.Proofs.Ytfbnkebgdmfcfaa.fnExactKernelAt
open Go.ChangeShapes Go.WideShapes Go.ChangeAt Go.RowKit
open Go.ChangeMaps (open_string shut_string)
set_option linter.unusedVariables false
theorem own : ownKnob Try.prog.godebug = none := by kernel_rfl
theorem laidOut : laidOutB Try.prog = true := by kernel_rfl
def IsRow (k : IntKind) (w : World) (a : Option Addr) (len cap : Nat) (zs : List Int) : Prop :=
  (a = none ∧ len = 0 ∧ cap = 0 ∧ zs = []) ∨
  ∃ x, a = some x ∧ len ≤ cap ∧ cap ≤ maxLen ∧ zs.length = cap ∧ (∀ i, i < zs.length → w.cell? (x.add i) = some (.int k (zs.getD i 0))) ∧ ∀ n ∈ zs, (Lit.int k n).wf = true
set_option maxRecDepth 100000 in
theorem lifted (os : Os) (started : os.Started) (H : Type) (enc : TypeId × Value → H) :
    ReturnsInHanded {} Try.checked os 11 .any (Rows.fnExactKernelAtSpec.pre6 enc Try.prog Try.f11 Rows.fnExactKernelAtRow.domain false) (Rows.fnExactKernelAtSpec.post enc Try.prog Try.f11 false true false false) := by
  refine returnsInHanded_of_change_sized (C := Try.checked) own started (by kernel_rfl) Try.func11
    (ChangeSpec.witness6 (enc := enc) (C := Try.checked) false ⟨#[], #[.agg #[.int .i64 0, .slice none 0 0], .int .i64 0, .int .i64 0, .int .i64 0], []⟩ 8 (by kernel_rfl) (by kernel_rfl) (by kernel_rfl) (by kernel_rfl)) ?_
  intro W base args ds gs before hval0 hW hcnd hsz0 _
  have hsz : (DataW.weightsEach Try.prog (Try.f11.params.toList ++ Rows.fnExactKernelAtSpec.plain.varTypes Try.prog) (ds ++ gs)).all (· ≤ reachBytes) = true := hsz0
  have hval : ∀ (j : Nat) t v, Try.f11.params[j]? = some t → args[j]? = some v → Value.okWide Try.prog W .any base t v := hval0
  have hW' := hW
  obtain ⟨p, q, hA0, hV, rfl, hfz, hnd⟩ := hW
  have hA : DataW.TrodAll enc Try.prog W 0 (fun _ => true) true Try.f11.params.toList args.toList ds p := hA0
  rw [Try.params11] at hA hval hsz
  obtain ⟨v0, vs0, d0, ds0, p0, q0, hargs, rfl, rfl, h0, r0⟩ := trodAll_cons hA
  obtain ⟨v1, vs1, d1, ds1, p1, q1, rfl, rfl, rfl, h1, r1⟩ := trodAll_cons r0
  obtain ⟨v2, vs2, d2, ds2, p2, q2, rfl, rfl, rfl, h2, r2⟩ := trodAll_cons r1
  obtain ⟨v3, vs3, d3, ds3, p3, q3, rfl, rfl, rfl, h3, r3⟩ := trodAll_cons r2
  obtain ⟨rfl, rfl, rfl⟩ := trodAll_nil r3
  obtain rfl : args = #[v0, v1, v2, v3] := by cases args; simp_all
  obtain ⟨rfl, rfl⟩ := trodVars_none hV
  have k0 := h0
  have lt0 : ∀ x ∈ p0, x.block < W.heap.size := by obtain ⟨m, hm⟩ := k0; exact DataW.trod_lt m _ _ _ hm
  obtain ⟨c0_0, c0_1, y0_0, y0_1, n0, rfl, rfl, rfl, e0_0, e0_1⟩ := Go.Joins.open_agg2 Try.underlying34 (by kernel_rfl) (by kernel_rfl) (hval 0 34 v0 rfl rfl) h0
  obtain ⟨a0_0, f0_0, _, w0_0⟩ := DataW.trod_int Try.underlying2 e0_0
  simp only [List.cons.injEq, and_true] at f0_0
  subst f0_0
  obtain ⟨a0_1, len0_1, cap0_1, z0_1, f0_1, w0_1⟩ : ∃ a len cap zs, c0_1 = .slice a len cap ∧ IsRow .i64 W a len cap zs := by
    rcases open_ints Try.underlying22 Try.underlying2 (by kernel_rfl) e0_1 with ⟨hcs, _⟩ | ⟨x, l, c, zs, hcs, _, hl, hm, hz, _, hcell, hwz⟩
    · simp only [List.cons.injEq, and_true] at hcs
      exact ⟨none, 0, 0, [], hcs, .inl ⟨rfl, rfl, rfl, rfl⟩⟩
    · simp only [List.cons.injEq, and_true] at hcs
      exact ⟨some x, l, c, zs, hcs, .inr ⟨_, rfl, hl, hm, by simpa using hz, hcell, hwz⟩⟩
  subst f0_1
  obtain ⟨a1, rfl, rfl, rfl, w1⟩ := open_int Try.underlying2 (hval 1 2 v1 rfl rfl) h1
  obtain ⟨a2, rfl, rfl, rfl, w2⟩ := open_int Try.underlying2 (hval 2 2 v2 rfl rfl) h2
  obtain ⟨a3, rfl, rfl, rfl, w3⟩ := open_int Try.underlying2 (hval 3 2 v3 rfl rfl) h3
  clear hA0 hval0 hsz0 hsz
  refine (Pr.laws_FnExactKernelAt.walk Pure.FnExactKernelAt a0_0 a0_1 len0_1 cap0_1 z0_1 a1 a2 a3 W w0_0 w0_1 w1 w2 w3).mono fun e W' ⟨he, bel⟩ => ?_
  subst he
  exact ⟨_, rfl, _, _, _, [], _, [], hW', trodAll_mk1 (shut_bool Try.underlying4 _), (trodAll_cons_mk (Below.trod laidOut (by kernel_rfl) (of_decide_eq_true (by kernel_rfl)) k0 bel lt0) (trodAll_cons_mk (shut_int Try.underlying2 w1) (trodAll_cons_mk (shut_int Try.underlying2 w2) (trodAll_cons_mk (shut_int Try.underlying2 w3) trodAll_mk0)))), rfl, bel.frame _, fun h => by cases h⟩
theorem over : Rows.fnExactKernelAtRow.holds Try.pinned (OpenSpec.ofChange Rows.fnExactKernelAtSpec) :=
  OpenClaim.holds_of_wide 11 Try.f11 rfl rfl rfl rfl rfl rfl rfl ⟨rfl, rfl, rfl, rfl, rfl⟩ rfl rfl rfl rfl rfl (by kernel_rfl) Try.func11 (by kernel_rfl)
    (of_decide_eq_true (by kernel_rfl)) (by unfold Func.isWrapper; first | (rw [if_pos (by decide +kernel)]; kernel_rfl) | (rw [if_neg (by decide +kernel)]; exact ⟨rfl, rfl⟩))
    (fun os started H enc _ => lifted os started H enc)
theorem proved : Rows.FnExactKernelAtSaid := over
#print axioms proved
end Go.Proofs.Ytfbnkebgdmfcfaa.fnExactKernelAt
namespace Go.Proofs.Ytfbnkebgdmfcfaa
/-- The row, under a short name, for the claim. -/
theorem fnExactKernelAt_holds : Rows.FnExactKernelAtSaid := fnExactKernelAt.proved
end Go.Proofs.Ytfbnkebgdmfcfaa
