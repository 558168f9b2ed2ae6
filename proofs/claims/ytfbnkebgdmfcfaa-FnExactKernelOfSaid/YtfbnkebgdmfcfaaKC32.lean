/- Texts of this session in one: what functions of the program compute, and plain facts of it, under the conditions that each theorem names. -/
import Derived.Test.YtfbnkebgdmfcfaaKFimplMomentskernel
import Derived.Test.YtfbnkebgdmfcfaaKC01
import Derived.Test.YtfbnkebgdmfcfaaKC05
import Derived.Test.YtfbnkebgdmfcfaaKC21
import Derived.Test.YtfbnkebgdmfcfaaKC31
namespace Go.Proofs.Ytfbnkebgdmfcfaa.Pr
open Go.RowKit Go.Proofs.YtfbnkebgdmfcfaaW.PrintWords Go.Proofs.YtfbnkebgdmfcfaaW.PrintLast Go.Proofs.YtfbnkebgdmfcfaaW.PrintMore
attribute [local go_sem] max2_int min2_int max_two min_two max_three min_three max_four min_four   -- for this text's walks alone
set_option linter.unusedVariables false
set_option linter.unusedSimpArgs false
/-! ### impl_kernelOf: function 108 -/
def impl_kernelOf.f (k : Nat) (a0_0 : Int) (l0_1 : List Int) (a1 : Int) (a2 : Int) (a3 : Bool) (l4 : List (List Int)) : Option (List Int × Int) := (impl_kernelOf_1.f a1 a0_0 l0_1 a2 a3).bind fun t866 => ((impl_momentsCode.f k a0_0 l0_1 t866 l4).bind fun t867 => (if t867 = 0 then ((impl_Moments_kernel.f k a0_0 l0_1 a1 a2).bind fun bt868 => (if bt868.2 = true then (some (bt868.1, 0)) else (some (([] : List Int), 5)))) else (some (([] : List Int), t867))))
set_option maxHeartbeats 8000000 in
set_option maxRecDepth 100000 in
theorem impl_kernelOf.calls (k : Nat) (a0_0 : Int) (A0_1 : Option Addr) (c0_1 : Nat) (l0_1 : List Int) (a1 : Int) (a2 : Int) (F3 : Value) (a3 : Bool) (A4 : Option Addr) (c4 : Nat) (l4 : List (List Int)) (r1 : List Int) (r2 : Int) (w : World) (hr0_1 : Kd.C (Kd.int .i64) w A0_1 l0_1.length l0_1) (hc0_1 : l0_1.length ≤ c0_1) (hF3 : FnB Try.prog w F3 a3) (hr4 : Kd.C (Kd.slice 2 (Kd.int .i64)) w A4 l4.length l4) (hc4 : l4.length ≤ c4) (h : impl_kernelOf.f k a0_0 l0_1 a1 a2 a3 l4 = some (r1, r2)) :
  Calls Try.prog 108 #[.agg #[.int .i64 a0_0, .slice A0_1 l0_1.length c0_1], .int .i64 a1, .int .i64 a2, F3, .slice A4 l4.length c4] w fun e w' => ∃ v0_ : Value, e = .returned (.tuple #[v0_, .int .i64 r2]) ∧ Kd.R (Kd.int .i64) 2 w' w.heap.size (fun _ => True) v0_ r1 ∧ Below w.heap.size w w' := by
 have hu40 := Try.underlying40
 have hmf : ∀ (fn_ : Fn) (first_ cap_ : Array Value) (w_ : World), (Instr.makeFunc fn_ first_ cap_).run Try.prog w_ = .ok (.func fn_ first_ cap_) w_ := fun _ _ _ _ => rfl
 have HR0_1 := zA hr0_1
 have HC0_1 := zA hc0_1
 clear hr0_1 hc0_1
 obtain ⟨G3, fi3, ca3, rfl, hen3, hF3⟩ := hF3
 have hen3 : ∀ (args_ : Array Value) (w_ : World), (callFunc G3 args_).run Try.prog w_ = .ok (.enter G3 args_) w_ := hen3
 have HF3 := zA hF3
 clear hF3
 have HR4 := zA hr4
 have HC4 := zA hc4
 clear hr4 hc4
 have HB := zA (Below.refl w.heap.size w)
 have H : ((impl_kernelOf_1.f a1 a0_0 l0_1 a2 a3).bind fun t866 => ((impl_momentsCode.f k a0_0 l0_1 t866 l4).bind fun t867 => (if t867 = 0 then ((impl_Moments_kernel.f k a0_0 l0_1 a1 a2).bind fun bt868 => (if bt868.2 = true then (some (bt868.1, 0)) else (some (([] : List Int), 5)))) else (some (([] : List Int), t867))))) = some (r1, r2) := h
 clear h
 replace H := Option.bind_eq_some_iff.mp H
 obtain ⟨t866, A60, H⟩ := H
 replace H : ((impl_momentsCode.f k a0_0 l0_1 t866 l4).bind fun t867 => (if t867 = 0 then ((impl_Moments_kernel.f k a0_0 l0_1 a1 a2).bind fun bt868 => (if bt868.2 = true then (some (bt868.1, 0)) else (some (([] : List Int), 5)))) else (some (([] : List Int), t867)))) = some (r1, r2) := H
 have A6 := zA A60
 clear A60
 replace H := Option.bind_eq_some_iff.mp H
 obtain ⟨t867, A70, H⟩ := H
 replace H : (if t867 = 0 then ((impl_Moments_kernel.f k a0_0 l0_1 a1 a2).bind fun bt868 => (if bt868.2 = true then (some (bt868.1, 0)) else (some (([] : List Int), 5)))) else (some (([] : List Int), t867))) = some (r1, r2) := H
 have A7 := zA A70
 clear A70
 by_cases c8 : t867 = 0
 rotate_left
 ·rw [if_neg c8] at H
  have c8b0 : (t867 == 0) = false := beq_eq_false_iff_ne.mpr c8
  have c8b1 : (t867 != 0) = true := bne_iff_ne.mpr c8
  simp only [Option.some.injEq, Prod.mk.injEq] at H
  obtain ⟨rfl, rfl⟩ := H
  go_enter Try.func108, Try.ntmps108
  go_wp2_with (first | ((with_reducible refine gate_dst (N := 5) rfl ?_); refine bx 5 #[.int .i64 a0_0, .slice A0_1 l0_1.length c0_1] 40 ?_; intro gb862 hg w43 hbox hb; have BK862 := zA (hbox); have GW862 := gq HB hg; have GE862 := gq HB hg; replace HB := xH HB hb; have := geI GE862; clear hb hbox hg) | ((with_reducible refine gate_dst (N := 6) rfl ?_); refine bx 6 #[.int .i64 a1] 2 ?_; intro gb863 hg w44 hbox hb; have BK863 := zA (hbox); have GW863 := gq HB hg; have GE863 := gq HB hg; replace HB := xH HB hb; have NB862_863 := zA ((by rw [hg]; exact neL BK862 : gb862 ≠ gb863)); have NB863_862 := zA ((by rw [hg]; exact neG BK862 : gb863 ≠ gb862)); replace BK862 := xB BK862 hb; have := geI GE863; clear hb hbox hg) | ((with_reducible refine gate_dst (N := 7) rfl ?_); refine bx 7 #[.int .i64 a2] 2 ?_; intro gb864 hg w45 hbox hb; have BK864 := zA (hbox); have GW864 := gq HB hg; have GE864 := gq HB hg; replace HB := xH HB hb; have NB862_864 := zA ((by rw [hg]; exact neL BK862 : gb862 ≠ gb864)); have NB864_862 := zA ((by rw [hg]; exact neG BK862 : gb864 ≠ gb862)); replace BK862 := xB BK862 hb; have NB863_864 := zA ((by rw [hg]; exact neL BK863 : gb863 ≠ gb864)); have NB864_863 := zA ((by rw [hg]; exact neG BK863 : gb864 ≠ gb863)); replace BK863 := xB BK863 hb; have := geI GE864; clear hb hbox hg) | ((with_reducible refine gate_dst (N := 8) rfl ?_); refine bx 8 #[(.func (.func G3) fi3 ca3)] 81 ?_; intro gb865 hg w46 hbox hb; have BK865 := zA (hbox); have GW865 := gq HB hg; have GE865 := gq HB hg; replace HB := xH HB hb; have NB862_865 := zA ((by rw [hg]; exact neL BK862 : gb862 ≠ gb865)); have NB865_862 := zA ((by rw [hg]; exact neG BK862 : gb865 ≠ gb862)); replace BK862 := xB BK862 hb; have NB863_865 := zA ((by rw [hg]; exact neL BK863 : gb863 ≠ gb865)); have NB865_863 := zA ((by rw [hg]; exact neG BK863 : gb865 ≠ gb863)); replace BK863 := xB BK863 hb; have NB864_865 := zA ((by rw [hg]; exact neL BK864 : gb864 ≠ gb865)); have NB865_864 := zA ((by rw [hg]; exact neG BK864 : gb865 ≠ gb864)); replace BK864 := xB BK864 hb; have := geI GE865; clear hb hbox hg; have hnb47 := NB862_863.out; have hnc47 := NB863_862.out; have hnb48 := NB862_864.out; have hnc48 := NB864_862.out; have hnb49 := NB862_865.out; have hnc49 := NB865_862.out; have hcz50_0 := bc BK862 0; have hcz50_1 := bc BK862 1; have hfz50_0 := bf BK862 0; have hfz50_1 := bf BK862 1) | ((with_reducible refine gate_callee (f := 68) rfl ?_); refine gL (some 18) Try.func68 #[.agg #[.int .i64 a0_0, .slice A0_1 l0_1.length c0_1], (.func (.func 143) #[] #[.pointer (some ⟨gb863, 0, none⟩), .pointer (some ⟨gb862, 0, none⟩), .pointer (some ⟨gb864, 0, none⟩), .pointer (some ⟨gb865, 0, none⟩)]), .slice A4 l4.length c4] ?_; (with_reducible refine (impl_momentsCode.calls k a0_0 _ _ l0_1 _ t866 _ _ l4 t867 _ ?side1 ?side2 ?side3 ?side4 ?side5 A7.out).mono ?_); (case side1 => exact uC ((Kd.C_below HR0_1.out HB.out))); (case side2 => exact HC0_1.out); (case side3 => exact FnB.of Try.func143 (by kernel_rfl) rfl (fun W_ hW_ => calls_of_args (args' := #[.pointer (some ⟨gb863, 0, none⟩), .pointer (some ⟨gb862, 0, none⟩), .pointer (some ⟨gb864, 0, none⟩), .pointer (some ⟨gb865, 0, none⟩)]) (by simp) ((impl_kernelOf_1.calls _ a1 _ a0_0 _ _ l0_1 _ a2 _ _ a3 _ W_ (blk_below (g := gb863) (o := .cells #[.int .i64 a1] 2 (0, 0)) (uB BK863.out) hW_) (blk_below (g := gb862) (o := .cells #[.int .i64 a0_0, .slice A0_1 l0_1.length c0_1] 40 (0, 0)) (uB BK862.out) hW_) (Kd.C_below (by exact uC ((Kd.C_below HR0_1.out HB.out))) hW_) (by exact HC0_1.out) (blk_below (g := gb864) (o := .cells #[.int .i64 a2] 2 (0, 0)) (uB BK864.out) hW_) (blk_below (g := gb865) (o := .cells #[(.func (.func G3) fi3 ca3)] 81 (0, 0)) (uB BK865.out) hW_) (FnB.later hW_ (by exact FnB.later (uH HB.out) (show FnB Try.prog w (.func (.func G3) fi3 ca3) a3 from ⟨_, _, _, rfl, hen3, HF3.out⟩))) A6.out).mono fun e_ W2_ h_ => ⟨h_.1, h_.2⟩))); (case side4 => exact uC ((Kd.C_below HR4.out HB.out))); (case side5 => exact HC4.out); rintro e w51 ⟨rfl, hb⟩; refine ⟨_, rfl, ?_⟩; replace BK862 := xB BK862 hb; replace BK863 := xB BK863 hb; replace BK864 := xB BK864 hb; replace BK865 := xB BK865 hb; replace HB := xH HB hb; (try clear hb); (try clear hb2); (try clear hk); (try clear hi)))
  go_ret2
  exact ⟨_, by first | rfl | (simp [errW_none, errW_some] <;> rfl) | (simp [*, errW_none, errW_some] <;> rfl), by first | exact Kd.R_nil _ _ _ _ _ | exact Kd.N_nil _ _ _ _ _ | exact Kd.V_nil _ _ _ _ _ | exact Kd.Q_nil _ _ _ _ _ | exact Kd.S_nil _ _ _ _ _, uH HB.out⟩

 rw [if_pos c8] at H
 have c8b0 : (t867 == 0) = true := beq_iff_eq.mpr c8
 have c8b1 : (t867 != 0) = false := bne_eq_false_iff_eq.mpr c8
 clear c8
 replace H := Option.bind_eq_some_iff.mp H
 obtain ⟨⟨t868, t871⟩, A90, H⟩ := H
 replace H : (if t871 = true then (some (t868, 0)) else (some (([] : List Int), 5))) = some (r1, r2) := H
 have A9 := zA A90
 clear A90
 by_cases c10 : t871 = true
 ·subst c10
  have H1 : (some (t868, 0)) = some (r1, r2) := by rw [if_pos rfl] at H; exact H
  clear H
  have H := H1
  clear H1
  simp only [Option.some.injEq, Prod.mk.injEq] at H
  obtain ⟨rfl, rfl⟩ := H
  go_enter Try.func108, Try.ntmps108
  go_wp2_with (first | ((with_reducible refine gate_dst (N := 5) rfl ?_); refine bx 5 #[.int .i64 a0_0, .slice A0_1 l0_1.length c0_1] 40 ?_; intro gb862 hg w11 hbox hb; have BK862 := zA (hbox); have GW862 := gq HB hg; have GE862 := gq HB hg; replace HB := xH HB hb; have := geI GE862; clear hb hbox hg) | ((with_reducible refine gate_dst (N := 6) rfl ?_); refine bx 6 #[.int .i64 a1] 2 ?_; intro gb863 hg w12 hbox hb; have BK863 := zA (hbox); have GW863 := gq HB hg; have GE863 := gq HB hg; replace HB := xH HB hb; have NB862_863 := zA ((by rw [hg]; exact neL BK862 : gb862 ≠ gb863)); have NB863_862 := zA ((by rw [hg]; exact neG BK862 : gb863 ≠ gb862)); replace BK862 := xB BK862 hb; have := geI GE863; clear hb hbox hg) | ((with_reducible refine gate_dst (N := 7) rfl ?_); refine bx 7 #[.int .i64 a2] 2 ?_; intro gb864 hg w13 hbox hb; have BK864 := zA (hbox); have GW864 := gq HB hg; have GE864 := gq HB hg; replace HB := xH HB hb; have NB862_864 := zA ((by rw [hg]; exact neL BK862 : gb862 ≠ gb864)); have NB864_862 := zA ((by rw [hg]; exact neG BK862 : gb864 ≠ gb862)); replace BK862 := xB BK862 hb; have NB863_864 := zA ((by rw [hg]; exact neL BK863 : gb863 ≠ gb864)); have NB864_863 := zA ((by rw [hg]; exact neG BK863 : gb864 ≠ gb863)); replace BK863 := xB BK863 hb; have := geI GE864; clear hb hbox hg) | ((with_reducible refine gate_dst (N := 8) rfl ?_); refine bx 8 #[(.func (.func G3) fi3 ca3)] 81 ?_; intro gb865 hg w14 hbox hb; have BK865 := zA (hbox); have GW865 := gq HB hg; have GE865 := gq HB hg; replace HB := xH HB hb; have NB862_865 := zA ((by rw [hg]; exact neL BK862 : gb862 ≠ gb865)); have NB865_862 := zA ((by rw [hg]; exact neG BK862 : gb865 ≠ gb862)); replace BK862 := xB BK862 hb; have NB863_865 := zA ((by rw [hg]; exact neL BK863 : gb863 ≠ gb865)); have NB865_863 := zA ((by rw [hg]; exact neG BK863 : gb865 ≠ gb863)); replace BK863 := xB BK863 hb; have NB864_865 := zA ((by rw [hg]; exact neL BK864 : gb864 ≠ gb865)); have NB865_864 := zA ((by rw [hg]; exact neG BK864 : gb865 ≠ gb864)); replace BK864 := xB BK864 hb; have := geI GE865; clear hb hbox hg; have hnb15 := NB862_863.out; have hnc15 := NB863_862.out; have hnb16 := NB862_864.out; have hnc16 := NB864_862.out; have hnb17 := NB862_865.out; have hnc17 := NB865_862.out; have hcz18_0 := bc BK862 0; have hcz18_1 := bc BK862 1; have hfz18_0 := bf BK862 0; have hfz18_1 := bf BK862 1) | ((with_reducible refine gate_callee (f := 68) rfl ?_); refine gL (some 18) Try.func68 #[.agg #[.int .i64 a0_0, .slice A0_1 l0_1.length c0_1], (.func (.func 143) #[] #[.pointer (some ⟨gb863, 0, none⟩), .pointer (some ⟨gb862, 0, none⟩), .pointer (some ⟨gb864, 0, none⟩), .pointer (some ⟨gb865, 0, none⟩)]), .slice A4 l4.length c4] ?_; (with_reducible refine (impl_momentsCode.calls k a0_0 _ _ l0_1 _ t866 _ _ l4 t867 _ ?side1 ?side2 ?side3 ?side4 ?side5 A7.out).mono ?_); (case side1 => exact uC ((Kd.C_below HR0_1.out HB.out))); (case side2 => exact HC0_1.out); (case side3 => exact FnB.of Try.func143 (by kernel_rfl) rfl (fun W_ hW_ => calls_of_args (args' := #[.pointer (some ⟨gb863, 0, none⟩), .pointer (some ⟨gb862, 0, none⟩), .pointer (some ⟨gb864, 0, none⟩), .pointer (some ⟨gb865, 0, none⟩)]) (by simp) ((impl_kernelOf_1.calls _ a1 _ a0_0 _ _ l0_1 _ a2 _ _ a3 _ W_ (blk_below (g := gb863) (o := .cells #[.int .i64 a1] 2 (0, 0)) (uB BK863.out) hW_) (blk_below (g := gb862) (o := .cells #[.int .i64 a0_0, .slice A0_1 l0_1.length c0_1] 40 (0, 0)) (uB BK862.out) hW_) (Kd.C_below (by exact uC ((Kd.C_below HR0_1.out HB.out))) hW_) (by exact HC0_1.out) (blk_below (g := gb864) (o := .cells #[.int .i64 a2] 2 (0, 0)) (uB BK864.out) hW_) (blk_below (g := gb865) (o := .cells #[(.func (.func G3) fi3 ca3)] 81 (0, 0)) (uB BK865.out) hW_) (FnB.later hW_ (by exact FnB.later (uH HB.out) (show FnB Try.prog w (.func (.func G3) fi3 ca3) a3 from ⟨_, _, _, rfl, hen3, HF3.out⟩))) A6.out).mono fun e_ W2_ h_ => ⟨h_.1, h_.2⟩))); (case side4 => exact uC ((Kd.C_below HR4.out HB.out))); (case side5 => exact HC4.out); rintro e w19 ⟨rfl, hb⟩; refine ⟨_, rfl, ?_⟩; replace BK862 := xB BK862 hb; replace BK863 := xB BK863 hb; replace BK864 := xB BK864 hb; replace BK865 := xB BK865 hb; replace HB := xH HB hb; (try clear hb); (try clear hb2); (try clear hk); (try clear hi); have hcz20_0 := bc BK862 0; have hcz20_1 := bc BK862 1; have hfz20_0 := bf BK862 0; have hfz20_1 := bf BK862 1; have hnb21 := NB863_864.out; have hnc21 := NB864_863.out; have hnb22 := NB863_865.out; have hnc22 := NB865_863.out; have hcz23_0 := bc BK863 0; have hfz23_0 := bf BK863 0; have hnb24 := NB864_865.out; have hnc24 := NB865_864.out; have hcz25_0 := bc BK864 0; have hfz25_0 := bf BK864 0) | ((with_reducible refine gate_callee (f := 144) rfl ?_); refine gL (some 26) Try.func144 #[.agg #[.int .i64 a0_0, .slice A0_1 l0_1.length c0_1], .int .i64 a1, .int .i64 a2] ?_; (with_reducible refine (impl_Moments_kernel.calls k a0_0 _ _ l0_1 a1 a2 t868 true _ ?side1 ?side2 A9.out).mono ?_); (case side1 => exact uC ((Kd.C_below HR0_1.out HB.out))); (case side2 => exact HC0_1.out); rintro e w26 ⟨v869, rfl, ho0, hb⟩; refine ⟨_, rfl, ?_⟩; have HO870 := zA (Kd.R_lower (Kd.R_newB (Kd.R_newB ho0 (g := gb863) (o := .cells #[.int .i64 a1] 2 (0, 0)) (uB BK863.out)) (g := gb864) (o := .cells #[.int .i64 a2] 2 (0, 0)) (uB BK864.out)) (below_size (uH HB.out))); replace BK862 := xB BK862 hb; replace BK863 := xB BK863 hb; replace BK864 := xB BK864 hb; replace BK865 := xB BK865 hb; replace HB := xH HB hb; (try clear hb); (try clear hb2); (try clear hk); (try clear hi); (try clear ho0)))
  go_ret2
  exact ⟨_, by first | rfl | (simp [errW_none, errW_some] <;> rfl) | (simp [*, errW_none, errW_some] <;> rfl), uR (Kd.R_mono HO870.out (fun _ hk => trivial)), uH HB.out⟩
 ·replace c10 := Bool.eq_false_iff.mpr c10
  subst c10
  have H1 : (some (([] : List Int), 5)) = some (r1, r2) := by rw [if_neg (show ¬ (false = true) by decide)] at H; exact H
  clear H
  have H := H1
  clear H1
  simp only [Option.some.injEq, Prod.mk.injEq] at H
  obtain ⟨rfl, rfl⟩ := H
  go_enter Try.func108, Try.ntmps108
  go_wp2_with (first | ((with_reducible refine gate_dst (N := 5) rfl ?_); refine bx 5 #[.int .i64 a0_0, .slice A0_1 l0_1.length c0_1] 40 ?_; intro gb862 hg w27 hbox hb; have BK862 := zA (hbox); have GW862 := gq HB hg; have GE862 := gq HB hg; replace HB := xH HB hb; have := geI GE862; clear hb hbox hg) | ((with_reducible refine gate_dst (N := 6) rfl ?_); refine bx 6 #[.int .i64 a1] 2 ?_; intro gb863 hg w28 hbox hb; have BK863 := zA (hbox); have GW863 := gq HB hg; have GE863 := gq HB hg; replace HB := xH HB hb; have NB862_863 := zA ((by rw [hg]; exact neL BK862 : gb862 ≠ gb863)); have NB863_862 := zA ((by rw [hg]; exact neG BK862 : gb863 ≠ gb862)); replace BK862 := xB BK862 hb; have := geI GE863; clear hb hbox hg) | ((with_reducible refine gate_dst (N := 7) rfl ?_); refine bx 7 #[.int .i64 a2] 2 ?_; intro gb864 hg w29 hbox hb; have BK864 := zA (hbox); have GW864 := gq HB hg; have GE864 := gq HB hg; replace HB := xH HB hb; have NB862_864 := zA ((by rw [hg]; exact neL BK862 : gb862 ≠ gb864)); have NB864_862 := zA ((by rw [hg]; exact neG BK862 : gb864 ≠ gb862)); replace BK862 := xB BK862 hb; have NB863_864 := zA ((by rw [hg]; exact neL BK863 : gb863 ≠ gb864)); have NB864_863 := zA ((by rw [hg]; exact neG BK863 : gb864 ≠ gb863)); replace BK863 := xB BK863 hb; have := geI GE864; clear hb hbox hg) | ((with_reducible refine gate_dst (N := 8) rfl ?_); refine bx 8 #[(.func (.func G3) fi3 ca3)] 81 ?_; intro gb865 hg w30 hbox hb; have BK865 := zA (hbox); have GW865 := gq HB hg; have GE865 := gq HB hg; replace HB := xH HB hb; have NB862_865 := zA ((by rw [hg]; exact neL BK862 : gb862 ≠ gb865)); have NB865_862 := zA ((by rw [hg]; exact neG BK862 : gb865 ≠ gb862)); replace BK862 := xB BK862 hb; have NB863_865 := zA ((by rw [hg]; exact neL BK863 : gb863 ≠ gb865)); have NB865_863 := zA ((by rw [hg]; exact neG BK863 : gb865 ≠ gb863)); replace BK863 := xB BK863 hb; have NB864_865 := zA ((by rw [hg]; exact neL BK864 : gb864 ≠ gb865)); have NB865_864 := zA ((by rw [hg]; exact neG BK864 : gb865 ≠ gb864)); replace BK864 := xB BK864 hb; have := geI GE865; clear hb hbox hg; have hnb31 := NB862_863.out; have hnc31 := NB863_862.out; have hnb32 := NB862_864.out; have hnc32 := NB864_862.out; have hnb33 := NB862_865.out; have hnc33 := NB865_862.out; have hcz34_0 := bc BK862 0; have hcz34_1 := bc BK862 1; have hfz34_0 := bf BK862 0; have hfz34_1 := bf BK862 1) | ((with_reducible refine gate_callee (f := 68) rfl ?_); refine gL (some 18) Try.func68 #[.agg #[.int .i64 a0_0, .slice A0_1 l0_1.length c0_1], (.func (.func 143) #[] #[.pointer (some ⟨gb863, 0, none⟩), .pointer (some ⟨gb862, 0, none⟩), .pointer (some ⟨gb864, 0, none⟩), .pointer (some ⟨gb865, 0, none⟩)]), .slice A4 l4.length c4] ?_; (with_reducible refine (impl_momentsCode.calls k a0_0 _ _ l0_1 _ t866 _ _ l4 t867 _ ?side1 ?side2 ?side3 ?side4 ?side5 A7.out).mono ?_); (case side1 => exact uC ((Kd.C_below HR0_1.out HB.out))); (case side2 => exact HC0_1.out); (case side3 => exact FnB.of Try.func143 (by kernel_rfl) rfl (fun W_ hW_ => calls_of_args (args' := #[.pointer (some ⟨gb863, 0, none⟩), .pointer (some ⟨gb862, 0, none⟩), .pointer (some ⟨gb864, 0, none⟩), .pointer (some ⟨gb865, 0, none⟩)]) (by simp) ((impl_kernelOf_1.calls _ a1 _ a0_0 _ _ l0_1 _ a2 _ _ a3 _ W_ (blk_below (g := gb863) (o := .cells #[.int .i64 a1] 2 (0, 0)) (uB BK863.out) hW_) (blk_below (g := gb862) (o := .cells #[.int .i64 a0_0, .slice A0_1 l0_1.length c0_1] 40 (0, 0)) (uB BK862.out) hW_) (Kd.C_below (by exact uC ((Kd.C_below HR0_1.out HB.out))) hW_) (by exact HC0_1.out) (blk_below (g := gb864) (o := .cells #[.int .i64 a2] 2 (0, 0)) (uB BK864.out) hW_) (blk_below (g := gb865) (o := .cells #[(.func (.func G3) fi3 ca3)] 81 (0, 0)) (uB BK865.out) hW_) (FnB.later hW_ (by exact FnB.later (uH HB.out) (show FnB Try.prog w (.func (.func G3) fi3 ca3) a3 from ⟨_, _, _, rfl, hen3, HF3.out⟩))) A6.out).mono fun e_ W2_ h_ => ⟨h_.1, h_.2⟩))); (case side4 => exact uC ((Kd.C_below HR4.out HB.out))); (case side5 => exact HC4.out); rintro e w35 ⟨rfl, hb⟩; refine ⟨_, rfl, ?_⟩; replace BK862 := xB BK862 hb; replace BK863 := xB BK863 hb; replace BK864 := xB BK864 hb; replace BK865 := xB BK865 hb; replace HB := xH HB hb; (try clear hb); (try clear hb2); (try clear hk); (try clear hi); have hcz36_0 := bc BK862 0; have hcz36_1 := bc BK862 1; have hfz36_0 := bf BK862 0; have hfz36_1 := bf BK862 1; have hnb37 := NB863_864.out; have hnc37 := NB864_863.out; have hnb38 := NB863_865.out; have hnc38 := NB865_863.out; have hcz39_0 := bc BK863 0; have hfz39_0 := bf BK863 0; have hnb40 := NB864_865.out; have hnc40 := NB865_864.out; have hcz41_0 := bc BK864 0; have hfz41_0 := bf BK864 0) | ((with_reducible refine gate_callee (f := 144) rfl ?_); refine gL (some 26) Try.func144 #[.agg #[.int .i64 a0_0, .slice A0_1 l0_1.length c0_1], .int .i64 a1, .int .i64 a2] ?_; (with_reducible refine (impl_Moments_kernel.calls k a0_0 _ _ l0_1 a1 a2 t868 false _ ?side1 ?side2 A9.out).mono ?_); (case side1 => exact uC ((Kd.C_below HR0_1.out HB.out))); (case side2 => exact HC0_1.out); rintro e w42 ⟨v869, rfl, ho0, hb⟩; refine ⟨_, rfl, ?_⟩; have HO870 := zA (Kd.R_lower (Kd.R_newB (Kd.R_newB ho0 (g := gb863) (o := .cells #[.int .i64 a1] 2 (0, 0)) (uB BK863.out)) (g := gb864) (o := .cells #[.int .i64 a2] 2 (0, 0)) (uB BK864.out)) (below_size (uH HB.out))); replace BK862 := xB BK862 hb; replace BK863 := xB BK863 hb; replace BK864 := xB BK864 hb; replace BK865 := xB BK865 hb; replace HB := xH HB hb; (try clear hb); (try clear hb2); (try clear hk); (try clear hi); (try clear ho0)))
  go_ret2
  exact ⟨_, by first | rfl | (simp [errW_none, errW_some] <;> rfl) | (simp [*, errW_none, errW_some] <;> rfl), by first | exact Kd.R_nil _ _ _ _ _ | exact Kd.N_nil _ _ _ _ _ | exact Kd.V_nil _ _ _ _ _ | exact Kd.Q_nil _ _ _ _ _ | exact Kd.S_nil _ _ _ _ _, uH HB.out⟩
/- The kernel of a number: the program's and the reference's come to one list; no condition. -/
theorem sumP_congr {p : Int} {P : Nat → List Int} {c e : Nat → Int} (k : Nat) (h : ∀ i, i < k → c i = e i) : sumP p P c k = sumP p P e k := by
  induction k with
  | zero => rfl
  | succ k ih => rw [sumP, sumP, ih (fun i hi => h i (by omega)), h k (by omega)]
def kerL (p : Int) (l : List Int) (a : Int) (i : Nat) : List Int := (List.range i).map (kerN p l a)
theorem kerL_len (p : Int) (l : List Int) (a : Int) (i : Nat) : (kerL p l a i).length = i := by simp [kerL]
theorem kerL_get (p : Int) (l : List Int) (a : Int) {i j : Nat} (h : j < i) : (kerL p l a i).getD j 0 = kerN p l a j := by
  rw [kerL, List.getD_eq_getElem?_getD, List.getElem?_map, List.getElem?_range h]; rfl
theorem kerL_succ (p : Int) (l : List Int) (a : Int) (i : Nat) : kerL p l a (i + 1) = kerL p l a i ++ [kerN p l a i] := by unfold kerL; rw [List.range_succ, List.map_append, List.map_singleton]
theorem kerL_nm {p : Int} (hp : Pm p) (l : List Int) (a : Int) (i : Nat) : Nm p (kerL p l a i) := fun x hx => by
  obtain ⟨j, _, rfl⟩ := List.mem_map.1 hx
  exact kerN_in hp l a j
/-- What the reference's kernel comes to, for good moments and ranges. -/
def kerV (p : Int) (l : List Int) (n : Nat) (a : Int) : List Int × Int := if (n : Int) + 1 ≤ ordV p l then (kerP p l n a, 0) else ([], 5)
section
variable {p : Int} (hp : Pm p) {l : List Int} (nl : Nm p l) (hl : l.length ≤ 24) {a : Int} (ha : 0 ≤ a ∧ a < p) {n : Nat} (hn : n ≤ 11)
include hp nl hl ha hn
theorem specKer_l0 (h2 : 2 * n + 1 ≤ l.length) (d : Nat) : ∀ i : Nat, i + d = n + 1 → Ev (fun k => spec_l04Kernel.l0 k (n : Int) a (sumP p (mP p l) (kerN p l a) i) p (mPolys p l n) (i : Int) p l) (kerP p l n a, 0) := by
  induction d with
  | zero =>
    intro i hi
    obtain rfl : i = n + 1 := by omega
    refine Ev.step (fun k => by rw [spec_l04Kernel.l0]) ?_
    exact Ev.neg (by omega) (Ev.now _)
  | succ d ih =>
    intro i hi
    have ho := mP_nm hp l i
    have hol := mP_len hp l i
    have hsl := sumP_len (p := p) (mP p l) (kerN p l a) (mP_len hp l) i
    have hn0 := mNorm_in hp l (mP p l i) 0
    have hiv := invF_in hp (mNorm p l (mP p l i) 0)
    have hv := valF_in hp a (mP p l i)
    have hm := mulP hp hv.1 hv.2 hiv.1 hiv.2
    have e1 : Int.tmod (wrap64 (valF p a (mP p l i) * invF p (mNorm p l (mP p l i) 0))) p = kerN p l a i := by
      rw [wrap_id (by omega) (by omega), tmod_pos hm.1]; rfl
    clear hm
    refine Ev.step (fun k => by rw [spec_l04Kernel.l0]) ?_
    rw [rdL_nat, mPolys_get p l (show i ≤ n by omega), mPolys_len, wsucc (i := i) (n := 1000) (by omega) (by omega)]
    refine Ev.pos (by omega) (Ev.pos (by omega) (Ev.pos (by omega) (Ev.bind (specAt_ev hp ha _ ho (by unfold Sm; omega)) (Ev.bind (specNorm_ev hp nl hl ho 0 (by omega)) (Ev.bind (specInv_ev hp hn0) (Ev.neg hp.ne ?_))))))
    rw [e1]
    refine Ev.bind (specAdd_ev hp (kerN_in hp l a i) _ _ (sumP_nm hp _ _ _) ho (by unfold Sm; omega) (by unfold Sm; omega)) ?_
    exact ih (i + 1) (by omega)
theorem implKer_l0 (h2 : 2 * n + 1 ≤ l.length) (al be ns : List Int) (d : Nat) : ∀ i : Nat, i + d = n + 1 →
    Ev (fun k => impl_Moments_kernel.l0 k a p (kerL p l a i) (mPolys p l n) ((n : Int) + 1) (i : Int) p l (mPolys p l n) ns p al be) (kerP p l n a, true) := by
  induction d with
  | zero =>
    intro i hi
    obtain rfl : i = n + 1 := by omega
    refine Ev.step (fun k => by rw [impl_Moments_kernel.l0]) ?_
    refine Ev.neg (by omega) (Ev.bind (implSum_ev hp (kerL p l a (n + 1)) (kerL_nm hp l a _) (mP p l) (mP_len hp l) (mP_nm hp l) (mPolys p l n) (fun j hj => mPolys_get p l (by rw [kerL_len] at hj; omega)) (by rw [kerL_len, mPolys_len]; omega) (by rw [kerL_len]; omega)) (Ev.some' ?_))
    rw [kerL_len, kerP, sumP_congr (n + 1) (fun j hj => kerL_get p l a hj)]
  | succ d ih =>
    intro i hi
    have ho := mP_nm hp l i
    have hol := mP_len hp l i
    have hn0 := mNorm_in hp l (mP p l i) 0
    have hv := valF_in hp a (mP p l i)
    refine Ev.step (fun k => by rw [impl_Moments_kernel.l0]) ?_
    rw [rdL_nat, mPolys_get p l (show i ≤ n by omega), mPolys_len, wsucc (i := i) (n := 1000) (by omega) (by omega), kerL_len]
    refine Ev.pos (by omega) (Ev.pos (by omega) (Ev.pos (by omega) (Ev.bindE (implValue_eq hp ha _ ho (by unfold Sm; omega)) (Ev.bind (implMul_ev hp _ _ ho ho (by unfold Sm; omega) (by unfold Sm; omega) (by unfold Sm; omega)) (Ev.bind (implNormP_ev hp nl hl (by omega)) (Ev.bind (implDiv_ev hp hv hn0) (Ev.pos (by omega) ?_)))))))
    have := ih (i + 1) (by omega)
    rw [kerL_succ] at this
    exact this
theorem implKer_ev (h1 : 1 ≤ l.length) : Ev (fun k => impl_Moments_kernel.f k p l (n : Int) a) (if (n : Int) + 1 ≤ ordV p l then (kerP p l n a, true) else ([], false)) := by
  obtain ⟨m, hm, hm2⟩ := ordV_nat p l
  have hu := implUpTo_ev hp nl hl h1 n (by omega)
  have ew : wrap64 ((n : Int) + 1) = (n : Int) + 1 := wrap_id (by omega) (by omega)
  unfold impl_Moments_kernel.f
  by_cases c : (n : Int) + 1 ≤ ordV p l
  · rw [if_pos ⟨by omega, by omega⟩] at hu
    rw [if_pos c]
    refine Ev.bind hu (Ev.pos rfl (Ev.bind (implOrd_ev hp nl hl) ?_))
    rw [ew, decide_eq_false (by omega)]
    refine Ev.step (fun k => by rw [impl_Moments_kernel.j0]) ?_
    refine Ev.neg (by decide) (Ev.bindE (a := p) rfl ?_)
    rw [mPolys_len, show (((n + 1 : Nat) : Int)) = (n : Int) + 1 from by omega]
    exact implKer_l0 hp nl hl ha hn (by omega) _ _ _ (n + 1) 0 (by omega)
  · rw [if_neg c]
    by_cases c2 : (n : Int) ≤ ordV p l ∧ 2 * n ≤ l.length
    · rw [if_pos c2] at hu
      refine Ev.bind hu (Ev.pos rfl (Ev.bind (implOrd_ev hp nl hl) ?_))
      rw [ew, decide_eq_true (by omega)]
      refine Ev.step (fun k => by rw [impl_Moments_kernel.j0]) ?_
      exact Ev.pos rfl (Ev.now _)
    · rw [if_neg c2] at hu
      refine Ev.bind hu (Ev.neg (by simp) (Ev.step (fun k => by rw [impl_Moments_kernel.j0]) ?_))
      exact Ev.pos rfl (Ev.now _)
end
/-- What the ranges of a kernel ask. -/
def kerR (p n a : Int) : Prop := (0 ≤ n ∧ n ≤ 11) ∧ (0 ≤ a ∧ a < p)
instance (p n a : Int) : Decidable (kerR p n a) := by unfold kerR; infer_instance
theorem specKernel_ev (p : Int) (l : List Int) (hl : Sm l.length) (n a : Int) : Ev (fun k => spec_l04Kernel.f k p l n a) (if momB p l = true then (if kerR p n a then kerV p l n.toNat a else ([], 2)) else ([], 1)) := by
  unfold spec_l04Kernel.f
  refine Ev.bind (specAre_ev p l hl) ?_
  by_cases h : momB p l = true
  · rw [if_pos h]
    have hp := momB.pm h
    have nl := momB.nm h
    have hlen := momB.len h
    have hw : wrap64 (p - 1) = p - 1 := by have := hp.two; have := hp.top; exact wrap_id (by omega) (by omega)
    rw [hw]
    refine Ev.pos h (Ev.bindE (in_eq _ _ _) ?_)
    by_cases hn : 0 ≤ n ∧ n ≤ 11
    · obtain ⟨k, rfl⟩ := Int.eq_ofNat_of_zero_le hn.1
      refine Ev.pos (decide_eq_true hn) (Ev.bindE (in_eq _ _ _) ?_)
      by_cases ha : 0 ≤ a ∧ a ≤ p - 1
      · rw [if_pos ⟨hn, ha.1, by omega⟩, decide_eq_true ha, toNat_nat]
        refine Ev.step (fun k => by rw [spec_l04Kernel.j0]) ?_
        refine Ev.neg (by decide) (Ev.bind (specOrd_ev hp nl hlen.2) ?_)
        obtain ⟨m, hm, hm2⟩ := ordV_nat p l
        have ew : wrap64 ((k : Int) + 1) = (k : Int) + 1 := wrap_id (by omega) (by omega)
        rw [ew]
        unfold kerV
        by_cases c : (k : Int) + 1 ≤ ordV p l
        · rw [if_pos c]
          exact Ev.neg (by omega) (Ev.bind (specPolys_ev hp nl hlen.2 (k := k) (by omega)) (specKer_l0 hp nl hlen.2 ⟨ha.1, by omega⟩ (by omega) (by omega) (k + 1) 0 (by omega)))
        · rw [if_neg c]
          exact Ev.pos (by omega) (Ev.now _)
      · rw [if_neg (fun g => ha ⟨g.2.1, by have := g.2.2; omega⟩), decide_eq_false ha]
        refine Ev.step (fun k => by rw [spec_l04Kernel.j0]) ?_
        exact Ev.pos rfl (Ev.now _)
    · rw [if_neg (fun g => hn g.1)]
      refine Ev.neg (by simpa using hn) (Ev.step (fun k => by rw [spec_l04Kernel.j0]) ?_)
      exact Ev.pos rfl (Ev.now _)
  · rw [if_neg h]
    exact Ev.neg h (Ev.now _)
theorem implKernelOf_ev (p : Int) (l : List Int) (hl : Sm l.length) (n a : Int) (b : Bool) (ls : List (List Int)) (hs : Sm ls.length) (hls : ∀ l ∈ ls, Sm l.length) :
    Ev (fun k => impl_kernelOf.f k p l n a b ls) (if (momB p l && ls.all (polyB p)) = true then (if kerR p n a ∧ b = true then kerV p l n.toNat a else ([], 2)) else ([], 1)) := by
  have h1 : impl_kernelOf_1.f n p l a b = some (decide (kerR p n a ∧ b = true)) := by
    unfold impl_kernelOf_1.f
    rw [within_eq, Option.bind_some]
    by_cases hn : 0 ≤ n ∧ n ≤ 11
    · rw [if_pos (decide_eq_true hn)]
      show (impl_field_has.f p a).bind _ = _
      rw [has_eq, Option.bind_some]
      by_cases ha : 0 ≤ a ∧ a < p
      · rw [if_pos (decide_eq_true ha)]
        cases b
        · rw [decide_eq_false (fun g => by cases g.2)]
        · rw [decide_eq_true ⟨⟨hn, ha⟩, rfl⟩]
      · rw [if_neg (by simpa using ha), decide_eq_false (fun g => ha g.1.2)]
    · rw [if_neg (by simpa using hn), decide_eq_false (fun g => hn g.1.1)]
  have hc := momentsCode_ev p l hl (decide (kerR p n a ∧ b = true)) ls hs hls
  unfold impl_kernelOf.f
  refine Ev.bindE h1 (Ev.bind hc ?_)
  by_cases h : (momB p l && ls.all (polyB p)) = true
  · rw [if_pos h, if_pos h]
    rw [Bool.and_eq_true] at h
    have hp := momB.pm h.1
    have nl := momB.nm h.1
    have hlen := momB.len h.1
    by_cases hr : kerR p n a ∧ b = true
    · rw [if_pos hr, if_pos (decide_eq_true hr)]
      obtain ⟨k, rfl⟩ := Int.eq_ofNat_of_zero_le hr.1.1.1
      have h11 := hr.1.1.2
      refine Ev.pos rfl (Ev.bind (implKer_ev hp nl hlen.2 hr.1.2 (show k ≤ 11 by omega) hlen.1) ?_)
      rw [toNat_nat]
      unfold kerV
      by_cases c : (k : Int) + 1 ≤ ordV p l
      · rw [if_pos c, if_pos c]
        exact Ev.pos rfl (Ev.now _)
      · rw [if_neg c, if_neg c]
        exact Ev.neg (by simp) (Ev.now _)
    · rw [if_neg hr, if_neg (by simpa using hr)]
      exact Ev.neg (by decide) (Ev.now _)
  · rw [if_neg h, if_neg h]
    exact Ev.neg (by decide) (Ev.now _)
theorem kerV_code (p : Int) (l : List Int) (n : Nat) (a : Int) : (kerV p l n a).2 = 0 ∧ (n : Int) + 1 ≤ ordV p l ∧ (kerV p l n a).1 = kerP p l n a ∨ (kerV p l n a).2 = 5 := by
  unfold kerV
  by_cases c : (n : Int) + 1 ≤ ordV p l
  · rw [if_pos c]; exact .inl ⟨rfl, c, rfl⟩
  · rw [if_neg c]; exact .inr rfl
end Go.Proofs.Ytfbnkebgdmfcfaa.Pr
