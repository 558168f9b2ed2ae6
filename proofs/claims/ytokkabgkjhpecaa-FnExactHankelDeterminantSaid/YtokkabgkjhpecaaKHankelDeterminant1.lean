/- Texts of this session in one: what functions of the program compute, and plain facts of it, under the conditions that each theorem names. -/
import Derived.Below
import Derived.ChangeOld
import Derived.Lib.SmallJoins
import Derived.OpenShut
import Derived.ProofKit
import Derived.ShutString
import Derived.SizedLaws
import Derived.Test.YtokkabgkjhpecaaRows
import Derived.WalkKit
import Derived.Test.YtokkabgkjhpecaaKC01
import Derived.Test.YtokkabgkjhpecaaKC02
import Derived.Test.YtokkabgkjhpecaaKC04
import Derived.Test.YtokkabgkjhpecaaKC06
import Derived.Test.YtokkabgkjhpecaaKC07
import Derived.Test.YtokkabgkjhpecaaWSized
namespace Go.Proofs.Ytokkabgkjhpecaa.Pr
open Go.RowKit Go.Proofs.YtokkabgkjhpecaaW.PrintWords Go.Proofs.YtokkabgkjhpecaaW.PrintLast Go.Proofs.YtokkabgkjhpecaaW.PrintMore
attribute [local go_sem] max2_int min2_int max_two min_two max_three min_three max_four min_four   -- for this text's walks alone
set_option linter.unusedVariables false
set_option linter.unusedSimpArgs false
/-! ### laws_FnExactHankelDeterminant: function 11 -/
def laws_FnExactHankelDeterminant.j0 : Nat → Bool → Int → List Int → Int → List Int → Option (Bool)
 | 0, _, _, _, _, _ => none
 | k + 1, x38, x1279000, x1279001, x1291000, x1291001 => if x38 = true then (some false) else ((laws_toMoments.f k x1279000 x1279001).bind fun bt1293 => ((laws_eqMoments.f k x1291000 x1291001 bt1293.1 bt1293.2).bind fun t1297 => (if t1297 = true then (some true) else (some false))))
def laws_FnExactHankelDeterminant.f (k : Nat) (a0_0 : Int) (l0_1 : List Int) (a1 : Int) : Option (Bool) := (laws_szMoments.f a0_0 l0_1 1048576).bind fun t1279 => (if t1279 < 0 then (some true) else ((laws_toMoments.f k a0_0 l0_1).bind fun bt1280 => ((spec_HankelDeterminant.f k bt1280.1 bt1280.2 a1).bind fun bt1284 => ((laws_toMoments.f k a0_0 l0_1).bind fun bt1286 => ((impl_HankelDeterminant.f k bt1286.1 bt1286.2 a1).bind fun bt1291 => (if bt1291.1 = bt1284.1 then (laws_FnExactHankelDeterminant.j0 k (bt1291.2 != bt1284.2) a0_0 l0_1 bt1286.1 bt1286.2) else (laws_FnExactHankelDeterminant.j0 k true a0_0 l0_1 bt1286.1 bt1286.2)))))))
theorem laws_FnExactHankelDeterminant.mono_l : ∀ k, (∀ y0 y1 y2 y3 y4, LeO (laws_FnExactHankelDeterminant.j0 k y0 y1 y2 y3 y4) (laws_FnExactHankelDeterminant.j0 (k + 1) y0 y1 y2 y3 y4))
 | 0 => fun _ _ _ _ _ r h => by simp [laws_FnExactHankelDeterminant.j0] at h
 | k + 1 => by
  have ih0 := laws_FnExactHankelDeterminant.mono_l k
  ·intro y0 y1 y2 y3 y4
   unfold laws_FnExactHankelDeterminant.j0
   repeat' first
   | (with_reducible exact ih0 _ _ _ _ _)
   | (with_reducible exact impl_HankelDeterminant.mono _ _ _ _)
   | (with_reducible exact laws_eqMoments.mono _ _ _ _ _)
   | (with_reducible exact laws_toMoments.mono _ _ _)
   | (with_reducible exact spec_HankelDeterminant.mono _ _ _ _)
   | (with_reducible exact LeO.refl _)
   | (with_reducible exact LeO.none _)
   | (with_reducible refine LeO.ite ?_ ?_)
   | (with_reducible refine LeO.bind ?_ (fun _ => ?_))
   | exact ih0 _ _ _ _ _
   | exact impl_HankelDeterminant.mono _ _ _ _
   | exact laws_eqMoments.mono _ _ _ _ _
   | exact laws_toMoments.mono _ _ _
   | exact spec_HankelDeterminant.mono _ _ _ _
   | exact LeO.none _
   | refine LeO.ite ?_ ?_
   | refine LeO.bind ?_ (fun _ => ?_)
theorem laws_FnExactHankelDeterminant.mono : ∀ a0 a1 a2 k, LeO (laws_FnExactHankelDeterminant.f k a0 a1 a2) (laws_FnExactHankelDeterminant.f (k + 1) a0 a1 a2) := by
 intro a0 a1 a2 k
 have ih0 := laws_FnExactHankelDeterminant.mono_l k
 unfold laws_FnExactHankelDeterminant.f
 repeat' first
   | (with_reducible exact ih0 _ _ _ _ _)
   | (with_reducible exact impl_HankelDeterminant.mono _ _ _ _)
   | (with_reducible exact laws_eqMoments.mono _ _ _ _ _)
   | (with_reducible exact laws_toMoments.mono _ _ _)
   | (with_reducible exact spec_HankelDeterminant.mono _ _ _ _)
   | (with_reducible exact LeO.refl _)
   | (with_reducible exact LeO.none _)
   | (with_reducible refine LeO.ite ?_ ?_)
   | (with_reducible refine LeO.bind ?_ (fun _ => ?_))
   | exact ih0 _ _ _ _ _
   | exact impl_HankelDeterminant.mono _ _ _ _
   | exact laws_eqMoments.mono _ _ _ _ _
   | exact laws_toMoments.mono _ _ _
   | exact spec_HankelDeterminant.mono _ _ _ _
   | exact LeO.none _
   | refine LeO.ite ?_ ?_
   | refine LeO.bind ?_ (fun _ => ?_)
set_option maxHeartbeats 8000000 in
set_option maxRecDepth 100000 in
theorem laws_FnExactHankelDeterminant.calls (k : Nat) (a0_0 : Int) (A0_1 : Option Addr) (c0_1 : Nat) (l0_1 : List Int) (a1 : Int) (r : Bool) (hr_ : r = true) (w : World) (hr0_1 : Kd.C (Kd.int .i64) w A0_1 l0_1.length l0_1) (hc0_1 : l0_1.length ≤ c0_1) (h : laws_FnExactHankelDeterminant.f k a0_0 l0_1 a1 = some r) :
  Calls Try.prog 11 #[.agg #[.int .i64 a0_0, .slice A0_1 l0_1.length c0_1], .int .i64 a1] w fun e w' => e = .returned (.bool r) ∧ Below w.heap.size w w' := by
 have hu24 := Try.underlying24
 have hu31 := Try.underlying31
 have HRT := zA hr_
 clear hr_
 have HR0_1 := zA hr0_1
 have HC0_1 := zA hc0_1
 clear hr0_1 hc0_1
 have HB := zA (Below.refl w.heap.size w)
 have H : ((laws_szMoments.f a0_0 l0_1 1048576).bind fun t1279 => (if t1279 < 0 then (some true) else ((laws_toMoments.f k a0_0 l0_1).bind fun bt1280 => ((spec_HankelDeterminant.f k bt1280.1 bt1280.2 a1).bind fun bt1284 => ((laws_toMoments.f k a0_0 l0_1).bind fun bt1286 => ((impl_HankelDeterminant.f k bt1286.1 bt1286.2 a1).bind fun bt1291 => (if bt1291.1 = bt1284.1 then (laws_FnExactHankelDeterminant.j0 k (bt1291.2 != bt1284.2) a0_0 l0_1 bt1286.1 bt1286.2) else (laws_FnExactHankelDeterminant.j0 k true a0_0 l0_1 bt1286.1 bt1286.2)))))))) = some r := h
 clear h
 replace H := Option.bind_eq_some_iff.mp H
 obtain ⟨t1279, A30, H⟩ := H
 replace H : (if t1279 < 0 then (some true) else ((laws_toMoments.f k a0_0 l0_1).bind fun bt1280 => ((spec_HankelDeterminant.f k bt1280.1 bt1280.2 a1).bind fun bt1284 => ((laws_toMoments.f k a0_0 l0_1).bind fun bt1286 => ((impl_HankelDeterminant.f k bt1286.1 bt1286.2 a1).bind fun bt1291 => (if bt1291.1 = bt1284.1 then (laws_FnExactHankelDeterminant.j0 k (bt1291.2 != bt1284.2) a0_0 l0_1 bt1286.1 bt1286.2) else (laws_FnExactHankelDeterminant.j0 k true a0_0 l0_1 bt1286.1 bt1286.2))))))) = some r := H
 have A3 := zA A30
 clear A30
 by_cases c4 : t1279 < 0
 rotate_left
 ·rw [if_neg c4] at H
  have c4b0 : decide (t1279 < 0) = false := decide_eq_false c4
  clear c4
  replace H := Option.bind_eq_some_iff.mp H
  obtain ⟨⟨t1280, t1281⟩, A80, H⟩ := H
  replace H : ((spec_HankelDeterminant.f k t1280 t1281 a1).bind fun bt1284 => ((laws_toMoments.f k a0_0 l0_1).bind fun bt1286 => ((impl_HankelDeterminant.f k bt1286.1 bt1286.2 a1).bind fun bt1291 => (if bt1291.1 = bt1284.1 then (laws_FnExactHankelDeterminant.j0 k (bt1291.2 != bt1284.2) a0_0 l0_1 bt1286.1 bt1286.2) else (laws_FnExactHankelDeterminant.j0 k true a0_0 l0_1 bt1286.1 bt1286.2))))) = some r := H
  have A8 := zA A80
  clear A80
  replace H := Option.bind_eq_some_iff.mp H
  obtain ⟨⟨t1284, t1285⟩, A90, H⟩ := H
  replace H : ((laws_toMoments.f k a0_0 l0_1).bind fun bt1286 => ((impl_HankelDeterminant.f k bt1286.1 bt1286.2 a1).bind fun bt1291 => (if bt1291.1 = t1284 then (laws_FnExactHankelDeterminant.j0 k (bt1291.2 != t1285) a0_0 l0_1 bt1286.1 bt1286.2) else (laws_FnExactHankelDeterminant.j0 k true a0_0 l0_1 bt1286.1 bt1286.2)))) = some r := H
  have A9 := zA A90
  clear A90
  replace H := Option.bind_eq_some_iff.mp H
  obtain ⟨⟨t1286, t1287⟩, A100, H⟩ := H
  replace H : ((impl_HankelDeterminant.f k t1286 t1287 a1).bind fun bt1291 => (if bt1291.1 = t1284 then (laws_FnExactHankelDeterminant.j0 k (bt1291.2 != t1285) a0_0 l0_1 t1286 t1287) else (laws_FnExactHankelDeterminant.j0 k true a0_0 l0_1 t1286 t1287))) = some r := H
  have A10 := zA A100
  clear A100
  replace H := Option.bind_eq_some_iff.mp H
  obtain ⟨⟨t1291, t1292⟩, A110, H⟩ := H
  replace H : (if t1291 = t1284 then (laws_FnExactHankelDeterminant.j0 k (t1292 != t1285) a0_0 l0_1 t1286 t1287) else (laws_FnExactHankelDeterminant.j0 k true a0_0 l0_1 t1286 t1287)) = some r := H
  have A11 := zA A110
  clear A110
  have HC12 := zA H
  clear H
  go_enter Try.func11, Try.ntmps11
  go_upto_region 8 with (first | ((with_reducible refine gate_dst (N := 2) rfl ?_); refine bx 2 #[.int .i64 a0_0, .slice A0_1 l0_1.length c0_1] 24 ?_; intro gb1278 hg w13 hbox hb; have BK1278 := zA (hbox); have GW1278 := gq HB hg; have GE1278 := gq HB hg; replace HB := xH HB hb; have := geI GE1278; clear hb hbox hg; have hcz14_0 := bc BK1278 0; have hcz14_1 := bc BK1278 1; have hfz14_0 := bf BK1278 0; have hfz14_1 := bf BK1278 1) | ((with_reducible refine gate_callee (f := 15) rfl ?_); refine gL (some 13) Try.func15 #[.agg #[.int .i64 a0_0, .slice A0_1 l0_1.length c0_1], .int .i64 1048576] ?_; (with_reducible refine (laws_szMoments.calls a0_0 _ _ l0_1 1048576 t1279 _ ?side1 ?side2 A3.out).mono ?_); (case side1 => exact uC ((Kd.C_below HR0_1.out HB.out))); (case side2 => exact HC0_1.out); rintro e w15 ⟨rfl, hb⟩; refine ⟨_, rfl, ?_⟩; replace BK1278 := xB BK1278 hb; replace HB := xH HB hb; (try clear hb); (try clear hb2); (try clear hk); (try clear hi); have hcz16_0 := bc BK1278 0; have hcz16_1 := bc BK1278 1; have hfz16_0 := bf BK1278 0; have hfz16_1 := bf BK1278 1) | ((with_reducible refine gate_callee (f := 18) rfl ?_); refine gL (some 18) Try.func18 #[.agg #[.int .i64 a0_0, .slice A0_1 l0_1.length c0_1]] ?_; (with_reducible refine (laws_toMoments.calls k a0_0 _ _ l0_1 t1280 t1281 _ ?side1 ?side2 A8.out).mono ?_); (case side1 => exact uC ((Kd.C_below HR0_1.out HB.out))); (case side2 => exact HC0_1.out); rintro e w17 ⟨v1282, rfl, ho0, hb⟩; refine ⟨_, rfl, ?_⟩; have HO1283 := zA (Kd.R_lower ho0 (below_size (uH HB.out))); replace BK1278 := xB BK1278 hb; replace HB := xH HB hb; (try clear hb); (try clear hb2); (try clear hk); (try clear hi); (try clear ho0); obtain ⟨Ao18, co18, eo18⟩ := Kd.R_slice HO1283.out; subst eo18) | ((with_reducible refine gate_callee (f := 48) rfl ?_); refine gL (some 20) Try.func48 #[.agg #[.int .i64 t1280, .slice Ao18 t1281.length co18], .int .i64 a1] ?_; (with_reducible refine (spec_HankelDeterminant.calls k t1280 _ _ t1281 a1 t1284 t1285 _ ?side1 ?side2 A9.out).mono ?_); (case side1 => exact uC ((Kd.R_reads' HO1283.out).2.2)); (case side2 => exact (Kd.R_reads' HO1283.out).2.1); rintro e w19 ⟨rfl, hb⟩; refine ⟨_, rfl, ?_⟩; replace HO1283 := xR HO1283 hb; replace BK1278 := xB BK1278 hb; replace HB := xH HB hb; (try clear hb); (try clear hb2); (try clear hk); (try clear hi); have hcz20_0 := bc BK1278 0; have hcz20_1 := bc BK1278 1; have hfz20_0 := bf BK1278 0; have hfz20_1 := bf BK1278 1) | ((with_reducible refine gate_callee (f := 18) rfl ?_); refine gL (some 24) Try.func18 #[.agg #[.int .i64 a0_0, .slice A0_1 l0_1.length c0_1]] ?_; (with_reducible refine (laws_toMoments.calls k a0_0 _ _ l0_1 t1286 t1287 _ ?side1 ?side2 A10.out).mono ?_); (case side1 => exact uC ((Kd.C_below HR0_1.out HB.out))); (case side2 => exact HC0_1.out); rintro e w21 ⟨v1288, rfl, ho0, hb⟩; refine ⟨_, rfl, ?_⟩; have HO1289 := zA (Kd.R_lower (Kd.R_new' ho0 (Kd.R_lt (uR HO1283.out))) (below_size (uH HB.out))); replace HO1283 := zA (Kd.R_elder' (uR HO1283.out) (Kd.R_base ho0) hb); replace BK1278 := xB BK1278 hb; replace HB := xH HB hb; (try clear hb); (try clear hb2); (try clear hk); (try clear hi); (try clear ho0)) | ((with_reducible refine gate_dst (N := 8) rfl ?_); refine bx 8 #[.int .i64 0, .slice none 0 0] 31 ?_; intro gb1290 hg w22 hbox hb; replace HO1283 := xR HO1283 hb; replace HO1289 := xR HO1289 hb; have BK1290 := zA (hbox); have GW1290 := gq HB hg; have GE1290 := gq HB hg; replace HB := xH HB hb; have NB1278_1290 := zA ((by rw [hg]; exact neL BK1278 : gb1278 ≠ gb1290)); have NB1290_1278 := zA ((by rw [hg]; exact neG BK1278 : gb1290 ≠ gb1278)); replace BK1278 := xB BK1278 hb; have := geI GE1290; clear hb hbox hg; have hnb23 := NB1290_1278.out; have hnc23 := NB1278_1290.out; have hcz24_0 := bc BK1290 0; have hcz24_1 := bc BK1290 1; have hfz24_0 := bf BK1290 0; have hfz24_1 := bf BK1290 1; obtain ⟨Ao25, co25, eo25⟩ := Kd.R_slice HO1289.out; subst eo25) | ((with_reducible refine gate_callee (f := 49) rfl ?_); refine gL (some 28) Try.func49 #[.agg #[.int .i64 t1286, .slice Ao25 t1287.length co25], .int .i64 a1] ?_; (with_reducible refine (impl_HankelDeterminant.calls k t1286 _ _ t1287 a1 t1291 t1292 _ ?side1 ?side2 A11.out).mono ?_); (case side1 => refine (Kd.R_reads' (e := 2) (base := w.heap.size) (ok := fun k_ => (True ∧ ax k_ (.slice Ao18 t1281.length co18))) (n := t1287.length) (c := co25) ?_).2.2; exact (uR ((rf2 HO1289 BK1290 (by decide) (.int .i64 t1286) (.slice Ao25 t1287.length co25))))); (case side2 => exact (Kd.R_reads' HO1289.out).2.1); rintro e w26 ⟨rfl, hb⟩; refine ⟨_, rfl, ?_⟩; replace HO1283 := zA (Kd.R_below (uR ((rf2 HO1283 BK1290 (by decide) (.int .i64 t1286) (.slice Ao25 t1287.length co25)))) hb); replace HO1289 := zA (Kd.R_below (uR ((rf2 HO1289 BK1290 (by decide) (.int .i64 t1286) (.slice Ao25 t1287.length co25)))) hb); replace BK1278 := zA (blk_below (g := gb1278) (o := .cells #[.int .i64 a0_0, .slice A0_1 l0_1.length c0_1] 24 (0, 0)) (by (repeat refine up1 ?_); refine blk_far ?_ NB1278_1290.out _; (repeat refine up1 ?_); refine blk_far ?_ NB1278_1290.out _; (repeat refine up1 ?_); exact BK1278.out) hb); replace BK1290 := zA (blk_below (g := gb1290) (o := .cells #[.int .i64 t1286, .slice Ao25 t1287.length co25] 31 (0, 0)) (by (repeat refine up1 ?_); refine blk_put (cs := #[.int .i64 t1286, .slice none 0 0]) ?_ 1 _ rfl; (repeat refine up1 ?_); refine blk_put (cs := #[.int .i64 0, .slice none 0 0]) ?_ 0 _ rfl; (repeat refine up1 ?_); exact BK1290.out) hb); replace HB := xH HB hb; (try clear hb); (try clear hb2); (try clear hk); (try clear hi)))
  (try simp only [Act.put, ls, lz, ln])
  go_cut [38] (fun v38 wc => ∃ (kq : Nat) (x38_11 : Bool), v38 = .bool x38_11 ∧ Aside0 (laws_FnExactHankelDeterminant.j0 kq x38_11 a0_0 l0_1 t1286 t1287 = some r) ∧ Aside0 (kq ≤ k) ∧ Aside0 (Kd.R (Kd.int .i64) 2 wc w.heap.size (fun _ => True) (.slice Ao25 t1287.length co25) t1287) ∧ Aside0 (wc.heap[gb1278]? = some (.cells #[.int .i64 a0_0, (.slice A0_1 l0_1.length c0_1)] 24 (0, 0))) ∧ Aside0 (wc.heap[gb1290]? = some (.cells #[.int .i64 t1286, (.slice Ao25 t1287.length co25)] 31 (0, 0))) ∧ Aside0 (Below w.heap.size w wc))
  case first =>
   have H := HC12.out
   clear HC12
   by_cases c27 : t1291 = t1284
   rotate_left
   ·rw [if_neg c27] at H
    have c27b0 : (t1291 == t1284) = false := beq_eq_false_iff_ne.mpr c27
    have c27b1 : (t1291 != t1284) = true := bne_iff_ne.mpr c27
    (first | rw [c27b0] | (simp only [i64_w, i32_w]; rw [c27b0]) | skip)
    have H' := zA H
    clear H
    go_wp2
    go_meet
    case rel => exact ⟨_, (true), (by first | rfl | (simp; done) | (simp [*]; done)), H', ⟨by first | omega | exact Nat.le_refl _⟩, ⟨uR (Kd.R_mono HO1289.out (fun _ hk => trivial))⟩, ⟨uB BK1278.out⟩, ⟨uB BK1290.out⟩, ⟨uH HB.out⟩⟩
   rw [if_pos c27] at H
   have c27b0 : (t1291 == t1284) = true := beq_iff_eq.mpr c27
   have c27b1 : (t1291 != t1284) = false := bne_eq_false_iff_eq.mpr c27
   clear c27
   (first | rw [c27b0] | (simp only [i64_w, i32_w]; rw [c27b0]) | skip)
   have H' := zA H
   clear H
   go_wp2
   go_meet
   case rel => exact ⟨_, ((t1292 != t1285)), (by first | rfl | (simp; done) | (simp [*]; done)), H', ⟨by first | omega | exact Nat.le_refl _⟩, ⟨uR (Kd.R_mono HO1289.out (fun _ hk => trivial))⟩, ⟨uB BK1278.out⟩, ⟨uB BK1290.out⟩, ⟨uH HB.out⟩⟩
  case rest =>
   clear HC12
   (try clear c1);(try clear c2);(try clear p2);(try clear c4);(try clear c4b0);(try clear c11);(try clear c15);(try clear c18);(try clear c23);(try clear c27);(try clear c27b0);(try clear c27b1);(try clear hcz14_0);(try clear hcz14_1);(try clear hcz16_0);(try clear hcz16_1);(try clear hcz20_0);(try clear hcz20_1);(try clear hcz24_0);(try clear hcz24_1);(try clear hcz6_0);(try clear hcz6_1);(try clear hfz14_0)
   (try clear hfz14_1);(try clear hfz16_0);(try clear hfz16_1);(try clear hfz20_0);(try clear hfz20_1);(try clear hfz24_0);(try clear hfz24_1);(try clear hfz6_0);(try clear hfz6_1)
   obtain ⟨kq, x38_11, rfl, HA, HJ11, HO_1291001, BK1278, BK1290, HB⟩ := hcut
   cases kq with
   | zero => exact absurd HA.out (by simp [laws_FnExactHankelDeterminant.j0])
   | succ kj11 =>
    have H := HA.out
    clear HA
    simp only [laws_FnExactHankelDeterminant.j0] at H
    by_cases c28 : x38_11 = true
    ·subst c28
     have H1 : (some false) = some r := by rw [if_pos rfl] at H; exact H
     clear H
     have H := H1
     clear H1
     rw [HRT.out] at H
     exact absurd H (by simp)
    ·replace c28 := Bool.eq_false_iff.mpr c28
     subst c28
     have H1 : ((laws_toMoments.f kj11 a0_0 l0_1).bind fun bt1293 => ((laws_eqMoments.f kj11 t1286 t1287 bt1293.1 bt1293.2).bind fun t1297 => (if t1297 = true then (some true) else (some false)))) = some r := by rw [if_neg (show ¬ (false = true) by decide)] at H; exact H
     clear H
     have H := H1
     clear H1
     replace H := Option.bind_eq_some_iff.mp H
     obtain ⟨⟨t1293, t1294⟩, A290, H⟩ := H
     replace H : ((laws_eqMoments.f kj11 t1286 t1287 t1293 t1294).bind fun t1297 => (if t1297 = true then (some true) else (some false))) = some r := H
     have A29 := zA A290
     clear A290
     replace H := Option.bind_eq_some_iff.mp H
     obtain ⟨t1297, A300, H⟩ := H
     replace H : (if t1297 = true then (some true) else (some false)) = some r := H
     have A30 := zA A300
     clear A300
     by_cases c31 : t1297 = true
     ·subst c31
      have H1 : (some true) = some r := by rw [if_pos rfl] at H; exact H
      clear H
      have H := H1
      clear H1
      obtain rfl := Option.some.inj H
      try go_wp2
      replace HO_1291001 := zA (Kd.R_drew HO_1291001.out)
      replace BK1278 := zA (blk_drew BK1278.out)
      replace BK1290 := zA (blk_drew BK1290.out)
      replace HB := zA (below_drew1 HB.out)
      refine start_ (n := 5) (S := fun w' => w'.cell? ⟨gb1290, 0, none⟩ = some (.int .i64 t1286) ∧ w'.cell? ⟨gb1290, 1, none⟩ = some (.slice Ao25 t1287.length co25) ∧ w'.cell? ⟨gb1278, 0, none⟩ = some (.int .i64 a0_0) ∧ w'.cell? ⟨gb1278, 1, none⟩ = some (.slice A0_1 l0_1.length c0_1)) (ds := []) #[false, false, false, false, false] (by kernel_rfl) rfl rfl ⟨bcu BK1290 0, bcu BK1290 1, bcu BK1278 0, bcu BK1278 1⟩ (fun hHeld => ?_)
      generalize wc.drew = w32 at HO_1291001 BK1278 BK1290 HB hHeld ⊢
      refine take_ (i := 0) (N := some 39) (v := ?_) (a' := ?_) (bl 5 1) rfl rfl (by kernel_rfl) (fun _ _ _ h => h) (Or.inl ⟨by rfl, ?_⟩) hHeld ?_ ?_
      rotate_left
      ·rintro w' ⟨s0, s1, s2, s3⟩
       go_simp
       with_reducible rfl
      rotate_left
      ·simp only [Act.put, ls, lz, ln, i64_w, i32_w]
       rfl
      refine take_ (i := 1) (N := some 40) (v := ?_) (a' := ?_) (bl 5 3) rfl rfl (by kernel_rfl) (fun _ _ _ h => h) (Or.inl ⟨by rfl, ?_⟩) hHeld ?_ ?_
      rotate_left
      ·rintro w' ⟨s0, s1, s2, s3⟩
       go_simp
       with_reducible rfl
      rotate_left
      ·simp only [Act.put, ls, lz, ln, i64_w, i32_w]
       rfl
      refine one_ (i := 2) (N := some 41) (bl 5 7) rfl rfl (by kernel_rfl) (by decide) (fun K hK => ?_)
      refine gS Try.func18 #[.agg #[.int .i64 a0_0, .slice A0_1 l0_1.length c0_1]] ?_
      with_reducible refine (laws_toMoments.calls kj11 a0_0 _ _ l0_1 t1293 t1294 _ ?side1 ?side2 A29.out).mono ?_
      (case side1 => exact uC ((Kd.C_below HR0_1.out HB.out)))
      (case side2 => exact HC0_1.out)
      rintro e w33 ⟨v1295, rfl, ho0, hb⟩
      refine ⟨_, rfl, ?_⟩
      have HO1296 := zA (Kd.R_lower (Kd.R_new' ho0 (Kd.R_lt (uR HO_1291001.out))) (below_size (uH HB.out)))
      replace HO_1291001 := zA (Kd.R_elder' (uR HO_1291001.out) (Kd.R_base ho0) hb)
      replace BK1278 := xB BK1278 hb
      replace BK1290 := xB BK1290 hb
      replace HB := xH HB hb
      (try clear hb); (try clear hb2); (try clear hk); (try clear hi); (try clear ho0)
      obtain ⟨Ao34, co34, eo34⟩ := Kd.R_slice HO1296.out
      (first | subst eo34 | (injection eo34 with f1_ f2_ f3_; have f4_ := f1_.symm; have f5_ := f3_.symm; clear f1_ f2_ f3_; subst f4_; subst f5_))
      refine hK.out _ _ ⟨bcu BK1290 0, bcu BK1290 1, bcu BK1278 0, bcu BK1278 1⟩ (fun hHeld => ?_)
      clear hK K
      refine no_ 41 ?_
      refine one_ (i := 3) (N := some 42) (bl 5 15) rfl rfl (by kernel_rfl) (by decide) (fun K hK => ?_)
      refine gS Try.func22 #[.agg #[.int .i64 t1286, .slice Ao25 t1287.length co25], .agg #[.int .i64 t1293, .slice Ao34 t1294.length co34]] ?_
      with_reducible refine (laws_eqMoments.calls kj11 t1286 _ _ t1287 t1293 _ _ t1294 true _ ?side1 ?side2 ?side3 ?side4 A30.out).mono ?_
      (case side1 => exact uC ((Kd.R_reads' HO_1291001.out).2.2))
      (case side2 => exact (Kd.R_reads' HO_1291001.out).2.1)
      (case side3 => exact uC ((Kd.R_reads' HO1296.out).2.2))
      (case side4 => exact (Kd.R_reads' HO1296.out).2.1)
      rintro e w35 ⟨rfl, hb⟩
      refine ⟨_, rfl, ?_⟩
      replace HO_1291001 := xR HO_1291001 hb
      replace HO1296 := xR HO1296 hb
      replace BK1278 := xB BK1278 hb
      replace BK1290 := xB BK1290 hb
      replace HB := xH HB hb
      (try clear hb); (try clear hb2); (try clear hk); (try clear hi)
      refine hK.out _ _ ⟨bcu BK1290 0, bcu BK1290 1, bcu BK1278 0, bcu BK1278 1⟩ (fun hHeld => ?_)
      clear hK K
      refine no_ 42 ?_
      refine pure_ (i := 4) (N := some 43) (v := ?_) (a' := ?_) (bl 5 31) rfl rfl (by kernel_rfl) (fun _ _ _ h => h) (Or.inl ⟨by rfl, ?_⟩) ?_ ?_
      rotate_left
      ·intro w'
       go_simp
       with_reducible rfl
      rotate_left
      ·simp only [Act.put, ls, lz, ln, i64_w, i32_w]
       rfl
      refine done_ (by kernel_rfl) ?_
      try go_wp2
      go_ret
      exact ⟨by first | rfl | (simp [errW_none, errW_some] <;> rfl) | (simp [*, errW_none, errW_some] <;> rfl), uH HB.out⟩
     ·replace c31 := Bool.eq_false_iff.mpr c31
      subst c31
      have H1 : (some false) = some r := by rw [if_neg (show ¬ (false = true) by decide)] at H; exact H
      clear H
      have H := H1
      clear H1
      rw [HRT.out] at H
      exact absurd H (by simp)

 rw [if_pos c4] at H
 have c4b0 : decide (t1279 < 0) = true := decide_eq_true c4
 clear c4
 obtain rfl := Option.some.inj H
 go_enter Try.func11, Try.ntmps11
 go_wp2_with (first | ((with_reducible refine gate_dst (N := 2) rfl ?_); refine bx 2 #[.int .i64 a0_0, .slice A0_1 l0_1.length c0_1] 24 ?_; intro gb1278 hg w5 hbox hb; have BK1278 := zA (hbox); have GW1278 := gq HB hg; have GE1278 := gq HB hg; replace HB := xH HB hb; have := geI GE1278; clear hb hbox hg; have hcz6_0 := bc BK1278 0; have hcz6_1 := bc BK1278 1; have hfz6_0 := bf BK1278 0; have hfz6_1 := bf BK1278 1) | ((with_reducible refine gate_callee (f := 15) rfl ?_); refine gL (some 13) Try.func15 #[.agg #[.int .i64 a0_0, .slice A0_1 l0_1.length c0_1], .int .i64 1048576] ?_; (with_reducible refine (laws_szMoments.calls a0_0 _ _ l0_1 1048576 t1279 _ ?side1 ?side2 A3.out).mono ?_); (case side1 => exact uC ((Kd.C_below HR0_1.out HB.out))); (case side2 => exact HC0_1.out); rintro e w7 ⟨rfl, hb⟩; refine ⟨_, rfl, ?_⟩; replace BK1278 := xB BK1278 hb; replace HB := xH HB hb; (try clear hb); (try clear hb2); (try clear hk); (try clear hi)))
 go_ret
 exact ⟨by first | rfl | (simp [errW_none, errW_some] <;> rfl) | (simp [*, errW_none, errW_some] <;> rfl), uH HB.out⟩
/-- THE ONE PURE STATEMENT of laws_FnExactHankelDeterminant: yours. -/
def laws_FnExactHankelDeterminant.Pure : Prop := ∀ (a0_0 : Int) (l0_1 : List Int) (a1 : Int), (Lit.int .i64 a0_0).wf = true → l0_1.length ≤ maxLen → (∀ x ∈ l0_1, (Lit.int .i64 x).wf = true) → (Lit.int .i64 a1).wf = true → ∃ k, laws_FnExactHankelDeterminant.f k a0_0 l0_1 a1 = some true
theorem laws_FnExactHankelDeterminant.walk (P : laws_FnExactHankelDeterminant.Pure) (a0_0 : Int) (a0_1 : Option Addr) (len0_1 cap0_1 : Nat) (z0_1 : List Int) (a1 : Int) (w : World) (w0_0 : (Lit.int .i64 a0_0).wf = true) (w0_1 : (a0_1 = none ∧ len0_1 = 0 ∧ cap0_1 = 0 ∧ z0_1 = []) ∨ ∃ x, a0_1 = some x ∧ len0_1 ≤ cap0_1 ∧ cap0_1 ≤ maxLen ∧ z0_1.length = cap0_1 ∧ (∀ i, i < z0_1.length → w.cell? (x.add i) = some (.int .i64 (z0_1.getD i 0))) ∧ ∀ n ∈ z0_1, (Lit.int .i64 n).wf = true) (w1 : (Lit.int .i64 a1).wf = true) :
  Calls Try.prog 11 #[.agg #[.int .i64 a0_0, .slice a0_1 len0_1 cap0_1], .int .i64 a1] w fun e w' => e = .returned (.bool true) ∧ Below w.heap.size w w' := by
 obtain ⟨l0_1, rfl, hr0_1, hm0_1, hw0_1, hc0_1⟩ := ReadsInt.ofRowC w0_1
 obtain ⟨k, h⟩ := P a0_0 l0_1 a1 w0_0 hm0_1 hw0_1 w1
 refine (laws_FnExactHankelDeterminant.calls k a0_0 _ _ l0_1 a1 true rfl w (Kd.C_of_reads (d := (0 : Int)) (h1 := fun _ => rfl) hr0_1) hc0_1 h).mono ?_
 rintro e w' ⟨rfl, hd⟩
 exact ⟨rfl, hd⟩
end Go.Proofs.Ytokkabgkjhpecaa.Pr
namespace Go.Proofs.Ytokkabgkjhpecaa.Pure
/- FnExactHankelDeterminant: for every input the law answers true: the program's HankelDeterminant and the reference's come to one value, and the law's own copies, marks and comparisons answer as they have to. No condition. -/
open Go.RowKit Go.Proofs.Ytokkabgkjhpecaa.Pr Go.Proofs.YtokkabgkjhpecaaW.PrintWords Go.Proofs.YtokkabgkjhpecaaW.PrintLast
theorem FnExactHankelDeterminant : laws_FnExactHankelDeterminant.Pure := by
  intro a0_0 l0_1 a1 w0_0 ml0_1 wl0_1 w1
  have main : Ev (fun k => laws_FnExactHankelDeterminant.f k a0_0 l0_1 a1) true := by
    unfold laws_FnExactHankelDeterminant.f
    by_cases z0 : l0_1.length ≤ 1048576
    case neg => exact Ev.bindE (szMoments_no _ l0_1 (by unfold maxLen at ml0_1; omega) (1048576) (by omega) (by omega)) (Ev.pos (by omega) (Ev.now _))
    refine Ev.bindE (szMoments_yes _ l0_1 (1048576) (by omega) z0) (Ev.neg (by omega) ?_)
    have sl0_1 : Sm l0_1.length := by unfold Sm; omega
    have bw0_0 := wf64 w0_0
    have bw1 := wf64 w1
    obtain ⟨v, hspec, himpl⟩ := HankelDeterminant_both a0_0 l0_1 a1 sl0_1
    repeat' first
      | exact Ev.now _
      | refine Ev.bind hspec ?_
      | refine Ev.bind himpl ?_
      | refine Ev.bind (toMoments_ev _ _ (by first | assumption | (rw [marks_length]; assumption))) ?_
      | refine Ev.bind (eqMoments_ev _ _ (by first | assumption | (rw [marks_length]; assumption))) ?_
      | refine Ev.pos (by first | rfl | omega | (dsimp only; omega)) ?_
      | refine Ev.neg (by first | exact ne_self _ | omega | (dsimp only; omega) | decide) ?_
      | refine Ev.step (fun k => by rw [laws_FnExactHankelDeterminant.j0]) ?_
      | refine Ev.step (fun k => by rw [laws_FnExactHankelDeterminant.j1]) ?_
      | refine Ev.step (fun k => by rw [laws_FnExactHankelDeterminant.j2]) ?_
      | refine Ev.step (fun k => by rw [laws_FnExactHankelDeterminant.j3]) ?_
      | refine Ev.step (fun k => by rw [laws_FnExactHankelDeterminant.j4]) ?_
      | refine Ev.step (fun k => by rw [laws_FnExactHankelDeterminant.j5]) ?_
  exact main.rounds
end Go.Proofs.Ytokkabgkjhpecaa.Pure
namespace Go.Proofs.Ytokkabgkjhpecaa.fnExactHankelDeterminant
open Go.ChangeShapes Go.WideShapes Go.ChangeAt Go.RowKit
open Go.ChangeMaps (open_string shut_string)
set_option linter.unusedVariables false
theorem own : ownKnob Try.prog.godebug = none := by kernel_rfl
theorem laidOut : laidOutB Try.prog = true := by kernel_rfl
def IsRow (k : IntKind) (w : World) (a : Option Addr) (len cap : Nat) (zs : List Int) : Prop :=
  (a = none ∧ len = 0 ∧ cap = 0 ∧ zs = []) ∨
  ∃ x, a = some x ∧ len ≤ cap ∧ cap ≤ maxLen ∧ zs.length = cap ∧ (∀ i, i < zs.length → w.cell? (x.add i) = some (.int k (zs.getD i 0))) ∧ ∀ n ∈ zs, (Lit.int k n).wf = true
set_option maxRecDepth 100000 in
theorem lifted (os : Os) (started : os.Started) (H : Type) (enc : TypeId × Value → H) :
    ReturnsInHanded {} Try.checked os 11 .any (Rows.fnExactHankelDeterminantSpec.pre6 enc Try.prog Try.f11 Rows.fnExactHankelDeterminantRow.domain false) (Rows.fnExactHankelDeterminantSpec.post enc Try.prog Try.f11 false true false false) := by
  refine returnsInHanded_of_change_sized (C := Try.checked) own started (by kernel_rfl) Try.func11
    (ChangeSpec.witness6 (enc := enc) (C := Try.checked) false ⟨#[], #[.agg #[.int .i64 0, .slice none 0 0], .int .i64 0], []⟩ 8 (by kernel_rfl) (by kernel_rfl) (by kernel_rfl) (by kernel_rfl)) ?_
  intro W base args ds gs before hval0 hW hcnd hsz0 _
  have hsz : (DataW.weightsEach Try.prog (Try.f11.params.toList ++ Rows.fnExactHankelDeterminantSpec.plain.varTypes Try.prog) (ds ++ gs)).all (· ≤ reachBytes) = true := hsz0
  have hval : ∀ (j : Nat) t v, Try.f11.params[j]? = some t → args[j]? = some v → Value.okWide Try.prog W .any base t v := hval0
  have hW' := hW
  obtain ⟨p, q, hA0, hV, rfl, hfz, hnd⟩ := hW
  have hA : DataW.TrodAll enc Try.prog W 0 (fun _ => true) true Try.f11.params.toList args.toList ds p := hA0
  rw [Try.params11] at hA hval hsz
  obtain ⟨v0, vs0, d0, ds0, p0, q0, hargs, rfl, rfl, h0, r0⟩ := trodAll_cons hA
  obtain ⟨v1, vs1, d1, ds1, p1, q1, rfl, rfl, rfl, h1, r1⟩ := trodAll_cons r0
  obtain ⟨rfl, rfl, rfl⟩ := trodAll_nil r1
  obtain rfl : args = #[v0, v1] := by cases args; simp_all
  obtain ⟨rfl, rfl⟩ := trodVars_none hV
  have k0 := h0
  have lt0 : ∀ x ∈ p0, x.block < W.heap.size := by obtain ⟨m, hm⟩ := k0; exact DataW.trod_lt m _ _ _ hm
  obtain ⟨c0_0, c0_1, y0_0, y0_1, n0, rfl, rfl, rfl, e0_0, e0_1⟩ := Go.Joins.open_agg2 Try.underlying24 (by kernel_rfl) (by kernel_rfl) (hval 0 24 v0 rfl rfl) h0
  obtain ⟨a0_0, f0_0, _, w0_0⟩ := DataW.trod_int Try.underlying2 e0_0
  simp only [List.cons.injEq, and_true] at f0_0
  subst f0_0
  obtain ⟨a0_1, len0_1, cap0_1, z0_1, f0_1, w0_1⟩ : ∃ a len cap zs, c0_1 = .slice a len cap ∧ IsRow .i64 W a len cap zs := by
    rcases open_ints Try.underlying22 Try.underlying2 (by kernel_rfl) e0_1 with ⟨hcs, _⟩ | ⟨x, l, c, zs, hcs, _, hl, hm, hz, _, hcell, hwz⟩
    · simp only [List.cons.injEq, and_true] at hcs
      exact ⟨none, 0, 0, [], hcs, .inl ⟨rfl, rfl, rfl, rfl⟩⟩
    · simp only [List.cons.injEq, and_true] at hcs
      exact ⟨some x, l, c, zs, hcs, .inr ⟨_, rfl, hl, hm, by simpa using hz, hcell, hwz⟩⟩
  subst f0_1
  obtain ⟨a1, rfl, rfl, rfl, w1⟩ := open_int Try.underlying2 (hval 1 2 v1 rfl rfl) h1
  clear hA0 hval0 hsz0 hsz
  refine (Pr.laws_FnExactHankelDeterminant.walk Pure.FnExactHankelDeterminant a0_0 a0_1 len0_1 cap0_1 z0_1 a1 W w0_0 w0_1 w1).mono fun e W' ⟨he, bel⟩ => ?_
  subst he
  exact ⟨_, rfl, _, _, _, [], _, [], hW', trodAll_mk1 (shut_bool Try.underlying4 _), (trodAll_cons_mk (Below.trod laidOut (by kernel_rfl) (of_decide_eq_true (by kernel_rfl)) k0 bel lt0) (trodAll_cons_mk (shut_int Try.underlying2 w1) trodAll_mk0)), rfl, bel.frame _, fun h => by cases h⟩
theorem over : Rows.fnExactHankelDeterminantRow.holds Try.pinned (OpenSpec.ofChange Rows.fnExactHankelDeterminantSpec) :=
  OpenClaim.holds_of_wide 11 Try.f11 rfl rfl rfl rfl rfl rfl rfl ⟨rfl, rfl, rfl, rfl, rfl⟩ rfl rfl rfl rfl rfl (by kernel_rfl) Try.func11 (by kernel_rfl)
    (of_decide_eq_true (by kernel_rfl)) (by unfold Func.isWrapper; first | (rw [if_pos (by decide +kernel)]; kernel_rfl) | (rw [if_neg (by decide +kernel)]; exact ⟨rfl, rfl⟩))
    (fun os started H enc _ => lifted os started H enc)
theorem proved : Rows.FnExactHankelDeterminantSaid := over
#print axioms proved
end Go.Proofs.Ytokkabgkjhpecaa.fnExactHankelDeterminant
namespace Go.Proofs.Ytokkabgkjhpecaa
/-- The row, under a short name, for the claim. -/
theorem fnExactHankelDeterminant_holds : Rows.FnExactHankelDeterminantSaid := fnExactHankelDeterminant.proved
end Go.Proofs.Ytokkabgkjhpecaa
