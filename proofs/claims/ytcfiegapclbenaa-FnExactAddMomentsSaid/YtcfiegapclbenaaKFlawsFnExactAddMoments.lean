/- Printed by a program of this session out of the translation: what these functions of the program compute, under the conditions that each theorem names. -/
import Derived.Test.YtcfiegapclbenaaKC01
import Derived.Test.YtcfiegapclbenaaKC11
import Derived.Test.YtcfiegapclbenaaKFspecAddMoments
import Derived.Test.YtcfiegapclbenaaKFimplAddMoments
namespace Go.Proofs.Ytcfiegapclbenaa.Pr
open Go.RowKit Go.Proofs.YtcfiegapclbenaaW.PrintWords Go.Proofs.YtcfiegapclbenaaW.PrintLast Go.Proofs.YtcfiegapclbenaaW.PrintMore
attribute [local go_sem] max2_int min2_int max_two min_two max_three min_three max_four min_four   -- for this text's walks alone
set_option linter.unusedVariables false
set_option linter.unusedSimpArgs false

/-! ### laws_FnExactAddMoments: function 5 -/
mutual
def laws_FnExactAddMoments.j0 : Nat → Int → Int → Int → Bool → Int → List Int → Int → List Int → Int → List Int → Int → List Int → Int → List Int → Int → List Int → Option (Bool)
 | 0, _, _, _, _, _, _, _, _, _, _, _, _, _, _, _, _ => none
 | k + 1, x2, x9, x13, x57, x321000, x321001, x322000, x322001, x338000, x338001, x343000, x343001, x348000, x348001, x354000, x354001 => if x57 = true then (some false) else ((laws_toMoments.f k x321000 x321001).bind fun bt355 => ((laws_eqMoments.f k x343000 x343001 bt355.1 bt355.2).bind fun t359 => (if t359 = true then ((laws_toMoments.f k x322000 x322001).bind fun bt360 => ((laws_eqMoments.f k x348000 x348001 bt360.1 bt360.2).bind fun t364 => (if t364 = true then ((laws_markMoments.f k x343000 x343001 1).bind fun bt365 => ((laws_markMoments.f k x348000 x348001 bt365.1).bind fun bt367 => (if bt367.1 < 0 then (laws_FnExactAddMoments.j1 k x2 x9 true x321000 x321001 x322000 x322001 x338000 x338001 x354000 x354001) else ((laws_eqMoments.f k x354000 x354001 x338000 x338001).bind fun t369 => (if t369 = true then (laws_FnExactAddMoments.j1 k x2 x9 (x13 != x9) x321000 x321001 x322000 x322001 x338000 x338001 x354000 x354001) else (laws_FnExactAddMoments.j1 k x2 x9 true x321000 x321001 x322000 x322001 x338000 x338001 x354000 x354001)))))) else (some false)))) else (some false))))
def laws_FnExactAddMoments.j1 : Nat → Int → Int → Bool → Int → List Int → Int → List Int → Int → List Int → Int → List Int → Option (Bool)
 | 0, _, _, _, _, _, _, _, _, _, _, _ => none
 | k + 1, x2, x9, x86, x321000, x321001, x322000, x322001, x338000, x338001, x354000, x354001 => if x86 = true then (some false) else ((laws_markMoments.f k x354000 x354001 1).bind fun bt370 => ((laws_heldMoments.f k x354000 bt370.2 1).bind fun t372 => (if t372 < 0 then (some false) else (if t372 = bt370.1 then ((laws_toMoments.f k x321000 x321001).bind fun bt373 => ((laws_toMoments.f k x322000 x322001).bind fun bt377 => ((impl_AddMoments.f k bt373.1 bt373.2 bt377.1 bt377.2 x2).bind fun bt381 => ((laws_eqMoments.f k bt381.1 bt381.2.1 x338000 x338001).bind fun t387 => (if t387 = true then (laws_FnExactAddMoments.j2 k bt370.1 (bt381.2.2 != x9) x354000 bt370.2) else (laws_FnExactAddMoments.j2 k bt370.1 true x354000 bt370.2)))))) else (some false)))))
def laws_FnExactAddMoments.j2 : Nat → Int → Bool → Int → List Int → Option (Bool)
 | 0, _, _, _, _ => none
 | k + 1, x15, x115, x354000, x354001 => if x115 = true then (some false) else ((laws_heldMoments.f k x354000 x354001 1).bind fun t388 => (if t388 < 0 then (some false) else (if t388 = x15 then (some true) else (some false))))
end
def laws_FnExactAddMoments.f (k : Nat) (a0_0 : Int) (l0_1 : List Int) (a1_0 : Int) (l1_1 : List Int) (a2 : Int) : Option (Bool) := (laws_szMoments.f a0_0 l0_1 1048576).bind fun t322 => (if t322 < 0 then (some true) else ((laws_szMoments.f a1_0 l1_1 t322).bind fun t323 => (if t323 < 0 then (some true) else ((laws_toMoments.f k a0_0 l0_1).bind fun bt324 => ((laws_toMoments.f k a1_0 l1_1).bind fun bt328 => ((spec_AddMoments.f k bt324.1 bt324.2 bt328.1 bt328.2 a2).bind fun bt332 => ((laws_toMoments.f k a0_0 l0_1).bind fun bt338 => ((laws_toMoments.f k a1_0 l1_1).bind fun bt343 => ((impl_AddMoments.f k bt338.1 bt338.2 bt343.1 bt343.2 a2).bind fun bt348 => ((laws_eqMoments.f k bt348.1 bt348.2.1 bt332.1 bt332.2.1).bind fun t354 => (if t354 = true then (laws_FnExactAddMoments.j0 k a2 bt332.2.2 bt348.2.2 (bt348.2.2 != bt332.2.2) a0_0 l0_1 a1_0 l1_1 bt332.1 bt332.2.1 bt338.1 bt338.2 bt343.1 bt343.2 bt348.1 bt348.2.1) else (laws_FnExactAddMoments.j0 k a2 bt332.2.2 bt348.2.2 true a0_0 l0_1 a1_0 l1_1 bt332.1 bt332.2.1 bt338.1 bt338.2 bt343.1 bt343.2 bt348.1 bt348.2.1))))))))))))
theorem laws_FnExactAddMoments.mono_l : ∀ k, (∀ y0 y1 y2 y3 y4 y5 y6 y7 y8 y9 y10 y11 y12 y13 y14 y15, LeO (laws_FnExactAddMoments.j0 k y0 y1 y2 y3 y4 y5 y6 y7 y8 y9 y10 y11 y12 y13 y14 y15) (laws_FnExactAddMoments.j0 (k + 1) y0 y1 y2 y3 y4 y5 y6 y7 y8 y9 y10 y11 y12 y13 y14 y15)) ∧ (∀ y0 y1 y2 y3 y4 y5 y6 y7 y8 y9 y10, LeO (laws_FnExactAddMoments.j1 k y0 y1 y2 y3 y4 y5 y6 y7 y8 y9 y10) (laws_FnExactAddMoments.j1 (k + 1) y0 y1 y2 y3 y4 y5 y6 y7 y8 y9 y10)) ∧ (∀ y0 y1 y2 y3, LeO (laws_FnExactAddMoments.j2 k y0 y1 y2 y3) (laws_FnExactAddMoments.j2 (k + 1) y0 y1 y2 y3))
 | 0 => ⟨fun _ _ _ _ _ _ _ _ _ _ _ _ _ _ _ _ r h => by simp [laws_FnExactAddMoments.j0] at h, fun _ _ _ _ _ _ _ _ _ _ _ r h => by simp [laws_FnExactAddMoments.j1] at h, fun _ _ _ _ r h => by simp [laws_FnExactAddMoments.j2] at h⟩
 | k + 1 => by
  obtain ⟨ih0, ih1, ih2⟩ := laws_FnExactAddMoments.mono_l k
  refine ⟨?_, ?_, ?_⟩
  ·intro y0 y1 y2 y3 y4 y5 y6 y7 y8 y9 y10 y11 y12 y13 y14 y15
   unfold laws_FnExactAddMoments.j0
   repeat' first
   | (with_reducible exact ih0 _ _ _ _ _ _ _ _ _ _ _ _ _ _ _ _)
   | (with_reducible exact ih1 _ _ _ _ _ _ _ _ _ _ _)
   | (with_reducible exact ih2 _ _ _ _)
   | (with_reducible exact impl_AddMoments.mono _ _ _ _ _ _)
   | (with_reducible exact laws_eqMoments.mono _ _ _ _ _)
   | (with_reducible exact laws_heldMoments.mono _ _ _ _)
   | (with_reducible exact laws_markMoments.mono _ _ _ _)
   | (with_reducible exact laws_toMoments.mono _ _ _)
   | (with_reducible exact spec_AddMoments.mono _ _ _ _ _ _)
   | (with_reducible exact LeO.refl _)
   | (with_reducible exact LeO.none _)
   | (with_reducible refine LeO.ite ?_ ?_)
   | (with_reducible refine LeO.bind ?_ (fun _ => ?_))
   | exact ih0 _ _ _ _ _ _ _ _ _ _ _ _ _ _ _ _
   | exact ih1 _ _ _ _ _ _ _ _ _ _ _
   | exact ih2 _ _ _ _
   | exact impl_AddMoments.mono _ _ _ _ _ _
   | exact laws_eqMoments.mono _ _ _ _ _
   | exact laws_heldMoments.mono _ _ _ _
   | exact laws_markMoments.mono _ _ _ _
   | exact laws_toMoments.mono _ _ _
   | exact spec_AddMoments.mono _ _ _ _ _ _
   | exact LeO.none _
   | refine LeO.ite ?_ ?_
   | refine LeO.bind ?_ (fun _ => ?_)
  ·intro y0 y1 y2 y3 y4 y5 y6 y7 y8 y9 y10
   unfold laws_FnExactAddMoments.j1
   repeat' first
   | (with_reducible exact ih0 _ _ _ _ _ _ _ _ _ _ _ _ _ _ _ _)
   | (with_reducible exact ih1 _ _ _ _ _ _ _ _ _ _ _)
   | (with_reducible exact ih2 _ _ _ _)
   | (with_reducible exact impl_AddMoments.mono _ _ _ _ _ _)
   | (with_reducible exact laws_eqMoments.mono _ _ _ _ _)
   | (with_reducible exact laws_heldMoments.mono _ _ _ _)
   | (with_reducible exact laws_markMoments.mono _ _ _ _)
   | (with_reducible exact laws_toMoments.mono _ _ _)
   | (with_reducible exact spec_AddMoments.mono _ _ _ _ _ _)
   | (with_reducible exact LeO.refl _)
   | (with_reducible exact LeO.none _)
   | (with_reducible refine LeO.ite ?_ ?_)
   | (with_reducible refine LeO.bind ?_ (fun _ => ?_))
   | exact ih0 _ _ _ _ _ _ _ _ _ _ _ _ _ _ _ _
   | exact ih1 _ _ _ _ _ _ _ _ _ _ _
   | exact ih2 _ _ _ _
   | exact impl_AddMoments.mono _ _ _ _ _ _
   | exact laws_eqMoments.mono _ _ _ _ _
   | exact laws_heldMoments.mono _ _ _ _
   | exact laws_markMoments.mono _ _ _ _
   | exact laws_toMoments.mono _ _ _
   | exact spec_AddMoments.mono _ _ _ _ _ _
   | exact LeO.none _
   | refine LeO.ite ?_ ?_
   | refine LeO.bind ?_ (fun _ => ?_)
  ·intro y0 y1 y2 y3
   unfold laws_FnExactAddMoments.j2
   repeat' first
   | (with_reducible exact ih0 _ _ _ _ _ _ _ _ _ _ _ _ _ _ _ _)
   | (with_reducible exact ih1 _ _ _ _ _ _ _ _ _ _ _)
   | (with_reducible exact ih2 _ _ _ _)
   | (with_reducible exact impl_AddMoments.mono _ _ _ _ _ _)
   | (with_reducible exact laws_eqMoments.mono _ _ _ _ _)
   | (with_reducible exact laws_heldMoments.mono _ _ _ _)
   | (with_reducible exact laws_markMoments.mono _ _ _ _)
   | (with_reducible exact laws_toMoments.mono _ _ _)
   | (with_reducible exact spec_AddMoments.mono _ _ _ _ _ _)
   | (with_reducible exact LeO.refl _)
   | (with_reducible exact LeO.none _)
   | (with_reducible refine LeO.ite ?_ ?_)
   | (with_reducible refine LeO.bind ?_ (fun _ => ?_))
   | exact ih0 _ _ _ _ _ _ _ _ _ _ _ _ _ _ _ _
   | exact ih1 _ _ _ _ _ _ _ _ _ _ _
   | exact ih2 _ _ _ _
   | exact impl_AddMoments.mono _ _ _ _ _ _
   | exact laws_eqMoments.mono _ _ _ _ _
   | exact laws_heldMoments.mono _ _ _ _
   | exact laws_markMoments.mono _ _ _ _
   | exact laws_toMoments.mono _ _ _
   | exact spec_AddMoments.mono _ _ _ _ _ _
   | exact LeO.none _
   | refine LeO.ite ?_ ?_
   | refine LeO.bind ?_ (fun _ => ?_)
theorem laws_FnExactAddMoments.mono : ∀ a0 a1 a2 a3 a4 k, LeO (laws_FnExactAddMoments.f k a0 a1 a2 a3 a4) (laws_FnExactAddMoments.f (k + 1) a0 a1 a2 a3 a4) := by
 intro a0 a1 a2 a3 a4 k
 obtain ⟨ih0, ih1, ih2⟩ := laws_FnExactAddMoments.mono_l k
 unfold laws_FnExactAddMoments.f
 repeat' first
   | (with_reducible exact ih0 _ _ _ _ _ _ _ _ _ _ _ _ _ _ _ _)
   | (with_reducible exact ih1 _ _ _ _ _ _ _ _ _ _ _)
   | (with_reducible exact ih2 _ _ _ _)
   | (with_reducible exact impl_AddMoments.mono _ _ _ _ _ _)
   | (with_reducible exact laws_eqMoments.mono _ _ _ _ _)
   | (with_reducible exact laws_heldMoments.mono _ _ _ _)
   | (with_reducible exact laws_markMoments.mono _ _ _ _)
   | (with_reducible exact laws_toMoments.mono _ _ _)
   | (with_reducible exact spec_AddMoments.mono _ _ _ _ _ _)
   | (with_reducible exact LeO.refl _)
   | (with_reducible exact LeO.none _)
   | (with_reducible refine LeO.ite ?_ ?_)
   | (with_reducible refine LeO.bind ?_ (fun _ => ?_))
   | exact ih0 _ _ _ _ _ _ _ _ _ _ _ _ _ _ _ _
   | exact ih1 _ _ _ _ _ _ _ _ _ _ _
   | exact ih2 _ _ _ _
   | exact impl_AddMoments.mono _ _ _ _ _ _
   | exact laws_eqMoments.mono _ _ _ _ _
   | exact laws_heldMoments.mono _ _ _ _
   | exact laws_markMoments.mono _ _ _ _
   | exact laws_toMoments.mono _ _ _
   | exact spec_AddMoments.mono _ _ _ _ _ _
   | exact LeO.none _
   | refine LeO.ite ?_ ?_
   | refine LeO.bind ?_ (fun _ => ?_)
def laws_FnExactAddMoments.T8 : Bool × List (List Nat × List Nat) := (true, [([], []), ([0], [0]), ([], []), ([2, 1], [2]), ([], []), ([1, 3, 4, 3], [1, 3, 4]), ([5], [5]), ([6], [6]), ([6], [6]), ([], []), ([9, 7, 5, 0, 1, 2, 3, 4, 5, 6, 7, 9], [7, 9]), ([8, 10, 0, 1, 2, 3, 4, 5, 6, 7, 8, 9, 10], [8])])
def laws_FnExactAddMoments.B8 : List Nat := [0, 1, 0, 7, 0, 31, 63, 127, 127, 0, 767, 2047]
theorem laws_FnExactAddMoments.tab8 : rtab .any (opsOf Try.f5 8) = laws_FnExactAddMoments.T8 := by kernel_rfl
theorem laws_FnExactAddMoments.bits8 : waitsOk laws_FnExactAddMoments.T8.2 laws_FnExactAddMoments.B8 = true := by kernel_rfl
def laws_FnExactAddMoments.T31 : Bool × List (List Nat × List Nat) := (true, [([], []), ([0], [0]), ([], []), ([2, 1], [2]), ([], []), ([1, 3, 4, 3], [1, 3, 4]), ([5], [5]), ([6], [6]), ([6], [6]), ([], []), ([9, 7, 5, 0, 1, 2, 3, 4, 5, 6, 7, 9], [7, 9]), ([8, 10, 0, 1, 2, 3, 4, 5, 6, 7, 8, 9, 10], [8])])
def laws_FnExactAddMoments.B31 : List Nat := [0, 1, 0, 7, 0, 31, 63, 127, 127, 0, 767, 2047]
theorem laws_FnExactAddMoments.tab31 : rtab .any (opsOf Try.f5 31) = laws_FnExactAddMoments.T31 := by kernel_rfl
theorem laws_FnExactAddMoments.bits31 : waitsOk laws_FnExactAddMoments.T31.2 laws_FnExactAddMoments.B31 = true := by kernel_rfl
set_option maxHeartbeats 8000000 in
set_option maxRecDepth 100000 in
theorem laws_FnExactAddMoments.calls (k : Nat) (a0_0 : Int) (A0_1 : Option Addr) (c0_1 : Nat) (l0_1 : List Int) (a1_0 : Int) (A1_1 : Option Addr) (c1_1 : Nat) (l1_1 : List Int) (a2 : Int) (r : Bool) (hr_ : r = true) (w : World) (hr0_1 : Kd.C (Kd.int .i64) w A0_1 l0_1.length l0_1) (hc0_1 : l0_1.length ≤ c0_1) (hr1_1 : Kd.C (Kd.int .i64) w A1_1 l1_1.length l1_1) (hc1_1 : l1_1.length ≤ c1_1) (h : laws_FnExactAddMoments.f k a0_0 l0_1 a1_0 l1_1 a2 = some r) :
  Calls Try.prog 5 #[.agg #[.int .i64 a0_0, .slice A0_1 l0_1.length c0_1], .agg #[.int .i64 a1_0, .slice A1_1 l1_1.length c1_1], .int .i64 a2] w fun e w' => e = .returned (.bool r) ∧ Below w.heap.size w w' := by
 have hu32 := Try.underlying32
 have hu36 := Try.underlying36
 have HRT := zA hr_
 clear hr_
 have HR0_1 := zA hr0_1
 have HC0_1 := zA hc0_1
 clear hr0_1 hc0_1
 have HR1_1 := zA hr1_1
 have HC1_1 := zA hc1_1
 clear hr1_1 hc1_1
 have HB := zA (Below.refl w.heap.size w)
 have H : ((laws_szMoments.f a0_0 l0_1 1048576).bind fun t322 => (if t322 < 0 then (some true) else ((laws_szMoments.f a1_0 l1_1 t322).bind fun t323 => (if t323 < 0 then (some true) else ((laws_toMoments.f k a0_0 l0_1).bind fun bt324 => ((laws_toMoments.f k a1_0 l1_1).bind fun bt328 => ((spec_AddMoments.f k bt324.1 bt324.2 bt328.1 bt328.2 a2).bind fun bt332 => ((laws_toMoments.f k a0_0 l0_1).bind fun bt338 => ((laws_toMoments.f k a1_0 l1_1).bind fun bt343 => ((impl_AddMoments.f k bt338.1 bt338.2 bt343.1 bt343.2 a2).bind fun bt348 => ((laws_eqMoments.f k bt348.1 bt348.2.1 bt332.1 bt332.2.1).bind fun t354 => (if t354 = true then (laws_FnExactAddMoments.j0 k a2 bt332.2.2 bt348.2.2 (bt348.2.2 != bt332.2.2) a0_0 l0_1 a1_0 l1_1 bt332.1 bt332.2.1 bt338.1 bt338.2 bt343.1 bt343.2 bt348.1 bt348.2.1) else (laws_FnExactAddMoments.j0 k a2 bt332.2.2 bt348.2.2 true a0_0 l0_1 a1_0 l1_1 bt332.1 bt332.2.1 bt338.1 bt338.2 bt343.1 bt343.2 bt348.1 bt348.2.1))))))))))))) = some r := h
 clear h
 replace H := Option.bind_eq_some_iff.mp H
 obtain ⟨t322, A40, H⟩ := H
 replace H : (if t322 < 0 then (some true) else ((laws_szMoments.f a1_0 l1_1 t322).bind fun t323 => (if t323 < 0 then (some true) else ((laws_toMoments.f k a0_0 l0_1).bind fun bt324 => ((laws_toMoments.f k a1_0 l1_1).bind fun bt328 => ((spec_AddMoments.f k bt324.1 bt324.2 bt328.1 bt328.2 a2).bind fun bt332 => ((laws_toMoments.f k a0_0 l0_1).bind fun bt338 => ((laws_toMoments.f k a1_0 l1_1).bind fun bt343 => ((impl_AddMoments.f k bt338.1 bt338.2 bt343.1 bt343.2 a2).bind fun bt348 => ((laws_eqMoments.f k bt348.1 bt348.2.1 bt332.1 bt332.2.1).bind fun t354 => (if t354 = true then (laws_FnExactAddMoments.j0 k a2 bt332.2.2 bt348.2.2 (bt348.2.2 != bt332.2.2) a0_0 l0_1 a1_0 l1_1 bt332.1 bt332.2.1 bt338.1 bt338.2 bt343.1 bt343.2 bt348.1 bt348.2.1) else (laws_FnExactAddMoments.j0 k a2 bt332.2.2 bt348.2.2 true a0_0 l0_1 a1_0 l1_1 bt332.1 bt332.2.1 bt338.1 bt338.2 bt343.1 bt343.2 bt348.1 bt348.2.1)))))))))))) = some r := H
 have A4 := zA A40
 clear A40
 by_cases c5 : t322 < 0
 ·rw [if_pos c5] at H
  have c5b0 : decide (t322 < 0) = true := decide_eq_true c5
  clear c5
  obtain rfl := Option.some.inj H
  go_enter Try.func5, Try.ntmps5
  go_wp2_with (first | ((with_reducible refine gate_dst (N := 3) rfl ?_); refine box_event ?hg (N := 3) ?hd (cs := #[.int .i64 a0_0, .slice A0_1 l0_1.length c0_1]) (t := 32) ?hr ?_; (case hd => rfl); (case hg => rfl); (case hr => first | (go_simp; done) | (go_simp; rfl)); intro gb320 hg w6 hbox hb; have n0_ := xH HB hb; have n1_ := zA (hbox); have n2_ := zA ((by rw [hg]; exact (below_size (uH HB.out)) : w.heap.size ≤ gb320)); have n3_ := zA ((by rw [hg]; exact (below_size (uH HB.out)) : w.heap.size ≤ gb320)); clear HB; have HB := n0_; have BK320 := n1_; have GW320 := n2_; have GE320 := n3_; have := geI GE320; clear n0_ n1_ n2_ n3_ hb hbox hg) | ((with_reducible refine gate_dst (N := 4) rfl ?_); refine box_event ?hg (N := 4) ?hd (cs := #[.int .i64 a1_0, .slice A1_1 l1_1.length c1_1]) (t := 32) ?hr ?_; (case hd => rfl); (case hg => rfl); (case hr => first | (go_simp; done) | (go_simp; rfl)); intro gb321 hg w7 hbox hb; have n0_ := xB BK320 hb; have n1_ := xH HB hb; have n2_ := zA (hbox); have n3_ := zA ((by rw [hg]; exact (below_size (uH HB.out)) : w.heap.size ≤ gb321)); have n4_ := zA ((by rw [hg]; exact (below_size (uH HB.out)) : w.heap.size ≤ gb321)); have n5_ := zA ((by rw [hg]; exact neL BK320 : gb320 ≠ gb321)); have n6_ := zA ((by rw [hg]; exact neG BK320 : gb321 ≠ gb320)); clear BK320 HB; have BK320 := n0_; have HB := n1_; have BK321 := n2_; have GW321 := n3_; have GE321 := n4_; have := geI GE321; have NB320_321 := n5_; have NB321_320 := n6_; clear n0_ n1_ n2_ n3_ n4_ n5_ n6_ hb hbox hg; have hnb8 := NB320_321.out; have hnc8 := NB321_320.out; have hcz9_0 : w7.cell? ⟨gb320, 0, none⟩ = some (.int .i64 a0_0) := (blk_cell BK320.out 0).trans rfl; have hcz9_1 : w7.cell? ⟨gb320, 1, none⟩ = some (.slice A0_1 l0_1.length c0_1) := (blk_cell BK320.out 1).trans rfl; have hfz9_0 := blk_frozen BK320.out 0; have hfz9_1 := blk_frozen BK320.out 1) | ((with_reducible refine gate_callee (f := 14) rfl ?_); refine goesL_ (some 21) rfl rfl Try.func14 (by kernel_rfl) rfl #[.agg #[.int .i64 a0_0, .slice A0_1 l0_1.length c0_1], .int .i64 1048576] rfl (by (try simp only [List.map_toArray, List.map_cons, List.map_nil]); first | done | rfl | (simp only [List.length_drop, List.length_take]; rfl)) ?_; (with_reducible refine (laws_szMoments.calls a0_0 _ _ l0_1 1048576 t322 _ ?side1 ?side2 A4.out).mono ?_); (case side1 => exact uC ((Kd.C_below HR0_1.out HB.out))); (case side2 => exact HC0_1.out); rintro e w10 ⟨rfl, hb⟩; refine ⟨_, rfl, ?_⟩; have n0_ := xB BK320 hb; have n1_ := xB BK321 hb; have n2_ := xH HB hb; clear BK320 BK321 HB; have BK320 := n0_; have BK321 := n1_; have HB := n2_; clear n0_ n1_ n2_; (try clear hb); (try clear hb2); (try clear hk); (try clear hi)))
  go_ret
  exact ⟨by first | rfl | (simp [errW_none, errW_some] <;> rfl) | (simp [*, errW_none, errW_some] <;> rfl), uH HB.out⟩
 ·rw [if_neg c5] at H
  have c5b0 : decide (t322 < 0) = false := decide_eq_false c5
  clear c5
  replace H := Option.bind_eq_some_iff.mp H
  obtain ⟨t323, A110, H⟩ := H
  replace H : (if t323 < 0 then (some true) else ((laws_toMoments.f k a0_0 l0_1).bind fun bt324 => ((laws_toMoments.f k a1_0 l1_1).bind fun bt328 => ((spec_AddMoments.f k bt324.1 bt324.2 bt328.1 bt328.2 a2).bind fun bt332 => ((laws_toMoments.f k a0_0 l0_1).bind fun bt338 => ((laws_toMoments.f k a1_0 l1_1).bind fun bt343 => ((impl_AddMoments.f k bt338.1 bt338.2 bt343.1 bt343.2 a2).bind fun bt348 => ((laws_eqMoments.f k bt348.1 bt348.2.1 bt332.1 bt332.2.1).bind fun t354 => (if t354 = true then (laws_FnExactAddMoments.j0 k a2 bt332.2.2 bt348.2.2 (bt348.2.2 != bt332.2.2) a0_0 l0_1 a1_0 l1_1 bt332.1 bt332.2.1 bt338.1 bt338.2 bt343.1 bt343.2 bt348.1 bt348.2.1) else (laws_FnExactAddMoments.j0 k a2 bt332.2.2 bt348.2.2 true a0_0 l0_1 a1_0 l1_1 bt332.1 bt332.2.1 bt338.1 bt338.2 bt343.1 bt343.2 bt348.1 bt348.2.1)))))))))) = some r := H
  have A11 := zA A110
  clear A110
  by_cases c12 : t323 < 0
  ·rw [if_pos c12] at H
   have c12b0 : decide (t323 < 0) = true := decide_eq_true c12
   clear c12
   obtain rfl := Option.some.inj H
   go_enter Try.func5, Try.ntmps5
   go_wp2_with (first | ((with_reducible refine gate_dst (N := 3) rfl ?_); refine box_event ?hg (N := 3) ?hd (cs := #[.int .i64 a0_0, .slice A0_1 l0_1.length c0_1]) (t := 32) ?hr ?_; (case hd => rfl); (case hg => rfl); (case hr => first | (go_simp; done) | (go_simp; rfl)); intro gb320 hg w13 hbox hb; have n0_ := xH HB hb; have n1_ := zA (hbox); have n2_ := zA ((by rw [hg]; exact (below_size (uH HB.out)) : w.heap.size ≤ gb320)); have n3_ := zA ((by rw [hg]; exact (below_size (uH HB.out)) : w.heap.size ≤ gb320)); clear HB; have HB := n0_; have BK320 := n1_; have GW320 := n2_; have GE320 := n3_; have := geI GE320; clear n0_ n1_ n2_ n3_ hb hbox hg) | ((with_reducible refine gate_dst (N := 4) rfl ?_); refine box_event ?hg (N := 4) ?hd (cs := #[.int .i64 a1_0, .slice A1_1 l1_1.length c1_1]) (t := 32) ?hr ?_; (case hd => rfl); (case hg => rfl); (case hr => first | (go_simp; done) | (go_simp; rfl)); intro gb321 hg w14 hbox hb; have n0_ := xB BK320 hb; have n1_ := xH HB hb; have n2_ := zA (hbox); have n3_ := zA ((by rw [hg]; exact (below_size (uH HB.out)) : w.heap.size ≤ gb321)); have n4_ := zA ((by rw [hg]; exact (below_size (uH HB.out)) : w.heap.size ≤ gb321)); have n5_ := zA ((by rw [hg]; exact neL BK320 : gb320 ≠ gb321)); have n6_ := zA ((by rw [hg]; exact neG BK320 : gb321 ≠ gb320)); clear BK320 HB; have BK320 := n0_; have HB := n1_; have BK321 := n2_; have GW321 := n3_; have GE321 := n4_; have := geI GE321; have NB320_321 := n5_; have NB321_320 := n6_; clear n0_ n1_ n2_ n3_ n4_ n5_ n6_ hb hbox hg; have hnb15 := NB320_321.out; have hnc15 := NB321_320.out; have hcz16_0 : w14.cell? ⟨gb320, 0, none⟩ = some (.int .i64 a0_0) := (blk_cell BK320.out 0).trans rfl; have hcz16_1 : w14.cell? ⟨gb320, 1, none⟩ = some (.slice A0_1 l0_1.length c0_1) := (blk_cell BK320.out 1).trans rfl; have hfz16_0 := blk_frozen BK320.out 0; have hfz16_1 := blk_frozen BK320.out 1) | ((with_reducible refine gate_callee (f := 14) rfl ?_); refine goesL_ (some 21) rfl rfl Try.func14 (by kernel_rfl) rfl #[.agg #[.int .i64 a0_0, .slice A0_1 l0_1.length c0_1], .int .i64 1048576] rfl (by (try simp only [List.map_toArray, List.map_cons, List.map_nil]); first | done | rfl | (simp only [List.length_drop, List.length_take]; rfl)) ?_; (with_reducible refine (laws_szMoments.calls a0_0 _ _ l0_1 1048576 t322 _ ?side1 ?side2 A4.out).mono ?_); (case side1 => exact uC ((Kd.C_below HR0_1.out HB.out))); (case side2 => exact HC0_1.out); rintro e w17 ⟨rfl, hb⟩; refine ⟨_, rfl, ?_⟩; have n0_ := xB BK320 hb; have n1_ := xB BK321 hb; have n2_ := xH HB hb; clear BK320 BK321 HB; have BK320 := n0_; have BK321 := n1_; have HB := n2_; clear n0_ n1_ n2_; (try clear hb); (try clear hb2); (try clear hk); (try clear hi); have hcz18_0 : w17.cell? ⟨gb321, 0, none⟩ = some (.int .i64 a1_0) := (blk_cell BK321.out 0).trans rfl; have hcz18_1 : w17.cell? ⟨gb321, 1, none⟩ = some (.slice A1_1 l1_1.length c1_1) := (blk_cell BK321.out 1).trans rfl; have hfz18_0 := blk_frozen BK321.out 0; have hfz18_1 := blk_frozen BK321.out 1) | ((with_reducible refine gate_callee (f := 14) rfl ?_); refine goesL_ (some 26) rfl rfl Try.func14 (by kernel_rfl) rfl #[.agg #[.int .i64 a1_0, .slice A1_1 l1_1.length c1_1], .int .i64 t322] rfl (by (try simp only [List.map_toArray, List.map_cons, List.map_nil]); first | done | rfl | (simp only [List.length_drop, List.length_take]; rfl)) ?_; (with_reducible refine (laws_szMoments.calls a1_0 _ _ l1_1 t322 t323 _ ?side1 ?side2 A11.out).mono ?_); (case side1 => exact uC ((Kd.C_below HR1_1.out HB.out))); (case side2 => exact HC1_1.out); rintro e w19 ⟨rfl, hb⟩; refine ⟨_, rfl, ?_⟩; have n0_ := xB BK320 hb; have n1_ := xB BK321 hb; have n2_ := xH HB hb; clear BK320 BK321 HB; have BK320 := n0_; have BK321 := n1_; have HB := n2_; clear n0_ n1_ n2_; (try clear hb); (try clear hb2); (try clear hk); (try clear hi)))
   go_ret
   exact ⟨by first | rfl | (simp [errW_none, errW_some] <;> rfl) | (simp [*, errW_none, errW_some] <;> rfl), uH HB.out⟩
  ·rw [if_neg c12] at H
   have c12b0 : decide (t323 < 0) = false := decide_eq_false c12
   clear c12
   replace H := Option.bind_eq_some_iff.mp H
   obtain ⟨⟨t324, t325⟩, A200, H⟩ := H
   replace H : ((laws_toMoments.f k a1_0 l1_1).bind fun bt328 => ((spec_AddMoments.f k t324 t325 bt328.1 bt328.2 a2).bind fun bt332 => ((laws_toMoments.f k a0_0 l0_1).bind fun bt338 => ((laws_toMoments.f k a1_0 l1_1).bind fun bt343 => ((impl_AddMoments.f k bt338.1 bt338.2 bt343.1 bt343.2 a2).bind fun bt348 => ((laws_eqMoments.f k bt348.1 bt348.2.1 bt332.1 bt332.2.1).bind fun t354 => (if t354 = true then (laws_FnExactAddMoments.j0 k a2 bt332.2.2 bt348.2.2 (bt348.2.2 != bt332.2.2) a0_0 l0_1 a1_0 l1_1 bt332.1 bt332.2.1 bt338.1 bt338.2 bt343.1 bt343.2 bt348.1 bt348.2.1) else (laws_FnExactAddMoments.j0 k a2 bt332.2.2 bt348.2.2 true a0_0 l0_1 a1_0 l1_1 bt332.1 bt332.2.1 bt338.1 bt338.2 bt343.1 bt343.2 bt348.1 bt348.2.1)))))))) = some r := H
   have A20 := zA A200
   clear A200
   replace H := Option.bind_eq_some_iff.mp H
   obtain ⟨⟨t328, t329⟩, A210, H⟩ := H
   replace H : ((spec_AddMoments.f k t324 t325 t328 t329 a2).bind fun bt332 => ((laws_toMoments.f k a0_0 l0_1).bind fun bt338 => ((laws_toMoments.f k a1_0 l1_1).bind fun bt343 => ((impl_AddMoments.f k bt338.1 bt338.2 bt343.1 bt343.2 a2).bind fun bt348 => ((laws_eqMoments.f k bt348.1 bt348.2.1 bt332.1 bt332.2.1).bind fun t354 => (if t354 = true then (laws_FnExactAddMoments.j0 k a2 bt332.2.2 bt348.2.2 (bt348.2.2 != bt332.2.2) a0_0 l0_1 a1_0 l1_1 bt332.1 bt332.2.1 bt338.1 bt338.2 bt343.1 bt343.2 bt348.1 bt348.2.1) else (laws_FnExactAddMoments.j0 k a2 bt332.2.2 bt348.2.2 true a0_0 l0_1 a1_0 l1_1 bt332.1 bt332.2.1 bt338.1 bt338.2 bt343.1 bt343.2 bt348.1 bt348.2.1))))))) = some r := H
   have A21 := zA A210
   clear A210
   replace H := Option.bind_eq_some_iff.mp H
   obtain ⟨⟨t332, t333, t336⟩, A220, H⟩ := H
   replace H : ((laws_toMoments.f k a0_0 l0_1).bind fun bt338 => ((laws_toMoments.f k a1_0 l1_1).bind fun bt343 => ((impl_AddMoments.f k bt338.1 bt338.2 bt343.1 bt343.2 a2).bind fun bt348 => ((laws_eqMoments.f k bt348.1 bt348.2.1 t332 t333).bind fun t354 => (if t354 = true then (laws_FnExactAddMoments.j0 k a2 t336 bt348.2.2 (bt348.2.2 != t336) a0_0 l0_1 a1_0 l1_1 t332 t333 bt338.1 bt338.2 bt343.1 bt343.2 bt348.1 bt348.2.1) else (laws_FnExactAddMoments.j0 k a2 t336 bt348.2.2 true a0_0 l0_1 a1_0 l1_1 t332 t333 bt338.1 bt338.2 bt343.1 bt343.2 bt348.1 bt348.2.1)))))) = some r := H
   have A22 := zA A220
   clear A220
   replace H := Option.bind_eq_some_iff.mp H
   obtain ⟨⟨t338, t339⟩, A230, H⟩ := H
   replace H : ((laws_toMoments.f k a1_0 l1_1).bind fun bt343 => ((impl_AddMoments.f k t338 t339 bt343.1 bt343.2 a2).bind fun bt348 => ((laws_eqMoments.f k bt348.1 bt348.2.1 t332 t333).bind fun t354 => (if t354 = true then (laws_FnExactAddMoments.j0 k a2 t336 bt348.2.2 (bt348.2.2 != t336) a0_0 l0_1 a1_0 l1_1 t332 t333 t338 t339 bt343.1 bt343.2 bt348.1 bt348.2.1) else (laws_FnExactAddMoments.j0 k a2 t336 bt348.2.2 true a0_0 l0_1 a1_0 l1_1 t332 t333 t338 t339 bt343.1 bt343.2 bt348.1 bt348.2.1))))) = some r := H
   have A23 := zA A230
   clear A230
   replace H := Option.bind_eq_some_iff.mp H
   obtain ⟨⟨t343, t344⟩, A240, H⟩ := H
   replace H : ((impl_AddMoments.f k t338 t339 t343 t344 a2).bind fun bt348 => ((laws_eqMoments.f k bt348.1 bt348.2.1 t332 t333).bind fun t354 => (if t354 = true then (laws_FnExactAddMoments.j0 k a2 t336 bt348.2.2 (bt348.2.2 != t336) a0_0 l0_1 a1_0 l1_1 t332 t333 t338 t339 t343 t344 bt348.1 bt348.2.1) else (laws_FnExactAddMoments.j0 k a2 t336 bt348.2.2 true a0_0 l0_1 a1_0 l1_1 t332 t333 t338 t339 t343 t344 bt348.1 bt348.2.1)))) = some r := H
   have A24 := zA A240
   clear A240
   replace H := Option.bind_eq_some_iff.mp H
   obtain ⟨⟨t348, t349, t352⟩, A250, H⟩ := H
   replace H : ((laws_eqMoments.f k t348 t349 t332 t333).bind fun t354 => (if t354 = true then (laws_FnExactAddMoments.j0 k a2 t336 t352 (t352 != t336) a0_0 l0_1 a1_0 l1_1 t332 t333 t338 t339 t343 t344 t348 t349) else (laws_FnExactAddMoments.j0 k a2 t336 t352 true a0_0 l0_1 a1_0 l1_1 t332 t333 t338 t339 t343 t344 t348 t349))) = some r := H
   have A25 := zA A250
   clear A250
   have HC26 := zA H
   clear H
   go_enter Try.func5, Try.ntmps5
   try go_wp2_with (first | ((with_reducible refine gate_dst (N := 3) rfl ?_); refine box_event ?hg (N := 3) ?hd (cs := #[.int .i64 a0_0, .slice A0_1 l0_1.length c0_1]) (t := 32) ?hr ?_; (case hd => rfl); (case hg => rfl); (case hr => first | (go_simp; done) | (go_simp; rfl)); intro gb320 hg w27 hbox hb; have n0_ := xH HB hb; have n1_ := zA (hbox); have n2_ := zA ((by rw [hg]; exact (below_size (uH HB.out)) : w.heap.size ≤ gb320)); have n3_ := zA ((by rw [hg]; exact (below_size (uH HB.out)) : w.heap.size ≤ gb320)); clear HB; have HB := n0_; have BK320 := n1_; have GW320 := n2_; have GE320 := n3_; have := geI GE320; clear n0_ n1_ n2_ n3_ hb hbox hg) | ((with_reducible refine gate_dst (N := 4) rfl ?_); refine box_event ?hg (N := 4) ?hd (cs := #[.int .i64 a1_0, .slice A1_1 l1_1.length c1_1]) (t := 32) ?hr ?_; (case hd => rfl); (case hg => rfl); (case hr => first | (go_simp; done) | (go_simp; rfl)); intro gb321 hg w28 hbox hb; have n0_ := xB BK320 hb; have n1_ := xH HB hb; have n2_ := zA (hbox); have n3_ := zA ((by rw [hg]; exact (below_size (uH HB.out)) : w.heap.size ≤ gb321)); have n4_ := zA ((by rw [hg]; exact (below_size (uH HB.out)) : w.heap.size ≤ gb321)); have n5_ := zA ((by rw [hg]; exact neL BK320 : gb320 ≠ gb321)); have n6_ := zA ((by rw [hg]; exact neG BK320 : gb321 ≠ gb320)); clear BK320 HB; have BK320 := n0_; have HB := n1_; have BK321 := n2_; have GW321 := n3_; have GE321 := n4_; have := geI GE321; have NB320_321 := n5_; have NB321_320 := n6_; clear n0_ n1_ n2_ n3_ n4_ n5_ n6_ hb hbox hg; have hnb29 := NB320_321.out; have hnc29 := NB321_320.out; have hcz30_0 : w28.cell? ⟨gb320, 0, none⟩ = some (.int .i64 a0_0) := (blk_cell BK320.out 0).trans rfl; have hcz30_1 : w28.cell? ⟨gb320, 1, none⟩ = some (.slice A0_1 l0_1.length c0_1) := (blk_cell BK320.out 1).trans rfl; have hfz30_0 := blk_frozen BK320.out 0; have hfz30_1 := blk_frozen BK320.out 1) | ((with_reducible refine gate_callee (f := 14) rfl ?_); refine goesL_ (some 21) rfl rfl Try.func14 (by kernel_rfl) rfl #[.agg #[.int .i64 a0_0, .slice A0_1 l0_1.length c0_1], .int .i64 1048576] rfl (by (try simp only [List.map_toArray, List.map_cons, List.map_nil]); first | done | rfl | (simp only [List.length_drop, List.length_take]; rfl)) ?_; (with_reducible refine (laws_szMoments.calls a0_0 _ _ l0_1 1048576 t322 _ ?side1 ?side2 A4.out).mono ?_); (case side1 => exact uC ((Kd.C_below HR0_1.out HB.out))); (case side2 => exact HC0_1.out); rintro e w31 ⟨rfl, hb⟩; refine ⟨_, rfl, ?_⟩; have n0_ := xB BK320 hb; have n1_ := xB BK321 hb; have n2_ := xH HB hb; clear BK320 BK321 HB; have BK320 := n0_; have BK321 := n1_; have HB := n2_; clear n0_ n1_ n2_; (try clear hb); (try clear hb2); (try clear hk); (try clear hi); have hcz32_0 : w31.cell? ⟨gb321, 0, none⟩ = some (.int .i64 a1_0) := (blk_cell BK321.out 0).trans rfl; have hcz32_1 : w31.cell? ⟨gb321, 1, none⟩ = some (.slice A1_1 l1_1.length c1_1) := (blk_cell BK321.out 1).trans rfl; have hfz32_0 := blk_frozen BK321.out 0; have hfz32_1 := blk_frozen BK321.out 1) | ((with_reducible refine gate_callee (f := 14) rfl ?_); refine goesL_ (some 26) rfl rfl Try.func14 (by kernel_rfl) rfl #[.agg #[.int .i64 a1_0, .slice A1_1 l1_1.length c1_1], .int .i64 t322] rfl (by (try simp only [List.map_toArray, List.map_cons, List.map_nil]); first | done | rfl | (simp only [List.length_drop, List.length_take]; rfl)) ?_; (with_reducible refine (laws_szMoments.calls a1_0 _ _ l1_1 t322 t323 _ ?side1 ?side2 A11.out).mono ?_); (case side1 => exact uC ((Kd.C_below HR1_1.out HB.out))); (case side2 => exact HC1_1.out); rintro e w33 ⟨rfl, hb⟩; refine ⟨_, rfl, ?_⟩; have n0_ := xB BK320 hb; have n1_ := xB BK321 hb; have n2_ := xH HB hb; clear BK320 BK321 HB; have BK320 := n0_; have BK321 := n1_; have HB := n2_; clear n0_ n1_ n2_; (try clear hb); (try clear hb2); (try clear hk); (try clear hi)))
   have n0_ := zA (blk_drew BK320.out)
   have n1_ := zA (blk_drew BK321.out)
   have n2_ := zA (below_drew1 HB.out)
   clear BK320 BK321 HB
   have BK320 := n0_; have BK321 := n1_; have HB := n2_
   clear n0_ n1_ n2_
   refine start_ (n := 12) (S := fun w' => w'.cell? ⟨gb320, 0, none⟩ = some (.int .i64 a0_0) ∧ w'.cell? ⟨gb320, 1, none⟩ = some (.slice A0_1 l0_1.length c0_1) ∧ w'.cell? ⟨gb321, 0, none⟩ = some (.int .i64 a1_0) ∧ w'.cell? ⟨gb321, 1, none⟩ = some (.slice A1_1 l1_1.length c1_1)) (ds := []) #[false, false, false, false, false, false, false, false, false, false, false, false] (by kernel_rfl) rfl rfl ⟨(blk_cell BK320.out 0).trans rfl, (blk_cell BK320.out 1).trans rfl, (blk_cell BK321.out 0).trans rfl, (blk_cell BK321.out 1).trans rfl⟩ (fun hHeld => ?_); refine with_tabW laws_FnExactAddMoments.tab8 laws_FnExactAddMoments.bits8 (fun HT_ HW_ => ?_)
   generalize w33.drew = w34 at BK320 BK321 HB hHeld ⊢
   refine pure_ (i := 4) (N := some 34) (v := ?_) (a' := ?_) #[false, false, false, false, true, false, false, false, false, false, false, false] rfl rfl (any_of HT_.out (by kernel_rfl)) (fun _ _ _ h => h) (Or.inl ⟨by rfl, ?_⟩) ?_ ?_
   rotate_left
   ·intro w'
    go_simp
    with_reducible rfl
   rotate_left
   ·simp only [Act.put, List.setIfInBounds_toArray, List.set_cons_zero, List.set_cons_succ, i64_w, i32_w]
    rfl
   refine take_ (i := 0) (N := some 30) (v := ?_) (a' := ?_) #[true, false, false, false, true, false, false, false, false, false, false, false] rfl rfl (take_ofW HT_.out HW_.out (by kernel_rfl)) (fun _ _ _ h => h) (Or.inl ⟨by rfl, ?_⟩) hHeld ?_ ?_
   rotate_left
   ·rintro w' ⟨s0, s1, s2, s3⟩
    go_simp
    with_reducible rfl
   rotate_left
   ·simp only [Act.put, List.setIfInBounds_toArray, List.set_cons_zero, List.set_cons_succ, i64_w, i32_w]
    rfl
   refine take_ (i := 2) (N := some 32) (v := ?_) (a' := ?_) #[true, false, true, false, true, false, false, false, false, false, false, false] rfl rfl (take_ofW HT_.out HW_.out (by kernel_rfl)) (fun _ _ _ h => h) (Or.inl ⟨by rfl, ?_⟩) hHeld ?_ ?_
   rotate_left
   ·rintro w' ⟨s0, s1, s2, s3⟩
    go_simp
    with_reducible rfl
   rotate_left
   ·simp only [Act.put, List.setIfInBounds_toArray, List.set_cons_zero, List.set_cons_succ, i64_w, i32_w]
    rfl
   refine join_ (σ := Value × Value × Value × Nat) 2 #[true, true, true, true, true, true, true, true, true, true, false, false] (fun s_ => [(31, .agg #[.int .i64 t324, s_.1]), (33, .agg #[.int .i64 t328, s_.2.1]), (35, .tuple #[.agg #[.int .i64 t332, s_.2.2.1], .int .i64 t336]), (8, .pointer (some ⟨s_.2.2.2, 0, none⟩)), (29, .tuple #[.agg #[.int .i64 t332, s_.2.2.1], .int .i64 t336]), (36, .agg #[.int .i64 t332, s_.2.2.1]), (37, .int .i64 t336)]) (fun s_ w' => (w'.cell? ⟨gb320, 0, none⟩ = some (.int .i64 a0_0) ∧ w'.cell? ⟨gb320, 1, none⟩ = some (.slice A0_1 l0_1.length c0_1) ∧ w'.cell? ⟨gb321, 0, none⟩ = some (.int .i64 a1_0) ∧ w'.cell? ⟨gb321, 1, none⟩ = some (.slice A1_1 l1_1.length c1_1)) ∧ (Kd.R (Kd.int .i64) 2 w' w.heap.size (fun k_ => some k_ ≠ (s_.2.1 : Value).ownBlock ∧ some k_ ≠ (s_.2.2.1 : Value).ownBlock) s_.1 t325) ∧ (Kd.R (Kd.int .i64) 2 w' w.heap.size (fun k_ => some k_ ≠ (s_.1 : Value).ownBlock ∧ some k_ ≠ (s_.2.2.1 : Value).ownBlock) s_.2.1 t329) ∧ (Kd.R (Kd.int .i64) 2 w' w.heap.size (fun k_ => some k_ ≠ (s_.1 : Value).ownBlock ∧ some k_ ≠ (s_.2.1 : Value).ownBlock) s_.2.2.1 t333) ∧ (w'.heap[gb320]? = some (.cells #[.int .i64 a0_0, .slice A0_1 l0_1.length c0_1] 32 (0, 0))) ∧ (w'.heap[gb321]? = some (.cells #[.int .i64 a1_0, .slice A1_1 l1_1.length c1_1] 32 (0, 0))) ∧ (w'.heap[s_.2.2.2]? = some (.cells #[.int .i64 0, .slice none 0 0] 36 (0, 0))) ∧ (w.heap.size ≤ s_.2.2.2) ∧ (w.heap.size ≤ s_.2.2.2) ∧ (gb320 ≠ s_.2.2.2) ∧ (s_.2.2.2 ≠ gb320) ∧ (gb321 ≠ s_.2.2.2) ∧ (s_.2.2.2 ≠ gb321) ∧ (Below w.heap.size w w')) ?_ ?_
   rotate_left
   ·intro hCont
    refine two_ (i := 1) (j := 9) (Ni := some 31) (Nj := some 8) #[true, true, true, false, true, false, false, false, false, false, false, false] #[true, false, true, false, true, false, false, false, false, true, false, false] rfl rfl rfl rfl (two_of HT_.out (by kernel_rfl)) (by decide) (by decide) (fun K hK => ?_) (fun K hK => ?_)
    ·skip
     refine goes_ Try.func16 (by kernel_rfl) rfl #[.agg #[.int .i64 a0_0, .slice A0_1 l0_1.length c0_1]] (by rfl) rfl rfl (by (try simp only [List.map_toArray, List.map_cons, List.map_nil]); first | done | rfl | (simp only [List.length_drop, List.length_take]; rfl)) ?_
     with_reducible refine (laws_toMoments.calls k a0_0 _ _ l0_1 t324 t325 _ ?side1 ?side2 A20.out).mono ?_
     (case side1 => exact uC ((Kd.C_below HR0_1.out HB.out)))
     (case side2 => exact HC0_1.out)
     rintro e w35 ⟨v326, rfl, ho0, hb⟩
     refine ⟨_, rfl, ?_⟩
     have n0_ := zA (Kd.R_lower ho0 (below_size (uH HB.out)))
     have n1_ := xB BK320 hb
     have n2_ := xB BK321 hb
     have n3_ := xH HB hb
     clear BK320 BK321 HB
     have HO327 := n0_; have BK320 := n1_; have BK321 := n2_; have HB := n3_
     clear n0_ n1_ n2_ n3_
     (try clear hb); (try clear hb2); (try clear hk); (try clear hi); (try clear ho0)
     refine hK.out _ _ ⟨(blk_cell BK320.out 0).trans rfl, (blk_cell BK320.out 1).trans rfl, (blk_cell BK321.out 0).trans rfl, (blk_cell BK321.out 1).trans rfl⟩ (fun hHeld => ?_)
     clear hK K
     refine norm_ (a' := ?_) ?_ ?_
     rotate_left
     ·show Act.put _ (some 31) _ = _
      simp only [Act.put, List.setIfInBounds_toArray, List.set_cons_zero, List.set_cons_succ, i64_w, i32_w]
      rfl
     refine two_ (i := 3) (j := 9) (Ni := some 33) (Nj := some 8) #[true, true, true, true, true, false, false, false, false, false, false, false] #[true, true, true, false, true, false, false, false, false, true, false, false] rfl rfl rfl rfl (two_of HT_.out (by kernel_rfl)) (by decide) (by decide) (fun K hK => ?_) (fun K hK => ?_)
     ·skip
      refine goes_ Try.func16 (by kernel_rfl) rfl #[.agg #[.int .i64 a1_0, .slice A1_1 l1_1.length c1_1]] (by rfl) rfl rfl (by (try simp only [List.map_toArray, List.map_cons, List.map_nil]); first | done | rfl | (simp only [List.length_drop, List.length_take]; rfl)) ?_
      with_reducible refine (laws_toMoments.calls k a1_0 _ _ l1_1 t328 t329 _ ?side1 ?side2 A21.out).mono ?_
      (case side1 => exact uC ((Kd.C_below HR1_1.out HB.out)))
      (case side2 => exact HC1_1.out)
      rintro e w36 ⟨v330, rfl, ho0, hb⟩
      refine ⟨_, rfl, ?_⟩
      have n0_ := zA (Kd.R_elder' (uR HO327.out) (Kd.R_base ho0) hb)
      have n1_ := zA (Kd.R_lower (Kd.R_new' ho0 (Kd.R_lt (uR HO327.out))) (below_size (uH HB.out)))
      have n2_ := xB BK320 hb
      have n3_ := xB BK321 hb
      have n4_ := xH HB hb
      clear HO327 BK320 BK321 HB
      have HO327 := n0_; have HO331 := n1_; have BK320 := n2_; have BK321 := n3_; have HB := n4_
      clear n0_ n1_ n2_ n3_ n4_
      (try clear hb); (try clear hb2); (try clear hk); (try clear hi); (try clear ho0)
      obtain ⟨Ao37, co37, eo37⟩ := Kd.R_slice HO327.out
      (first | subst eo37 | (injection eo37 with f1_ f2_ f3_; have f4_ := f1_.symm; have f5_ := f3_.symm; clear f1_ f2_ f3_; subst f4_; subst f5_))
      obtain ⟨Ao38, co38, eo38⟩ := Kd.R_slice HO331.out
      (first | subst eo38 | (injection eo38 with f1_ f2_ f3_; have f4_ := f1_.symm; have f5_ := f3_.symm; clear f1_ f2_ f3_; subst f4_; subst f5_))
      refine hK.out _ _ ⟨(blk_cell BK320.out 0).trans rfl, (blk_cell BK320.out 1).trans rfl, (blk_cell BK321.out 0).trans rfl, (blk_cell BK321.out 1).trans rfl⟩ (fun hHeld => ?_)
      clear hK K
      refine norm_ (a' := ?_) ?_ ?_
      rotate_left
      ·show Act.put _ (some 33) _ = _
       simp only [Act.put, List.setIfInBounds_toArray, List.set_cons_zero, List.set_cons_succ, i64_w, i32_w]
       rfl
      refine two_ (i := 5) (j := 9) (Ni := some 35) (Nj := some 8) #[true, true, true, true, true, true, false, false, false, false, false, false] #[true, true, true, true, true, false, false, false, false, true, false, false] rfl rfl rfl rfl (two_of HT_.out (by kernel_rfl)) (by decide) (by decide) (fun K hK => ?_) (fun K hK => ?_)
      ·skip
       refine goes_ Try.func21 (by kernel_rfl) rfl #[.agg #[.int .i64 t324, .slice Ao37 t325.length co37], .agg #[.int .i64 t328, .slice Ao38 t329.length co38], .int .i64 a2] (by rfl) rfl rfl (by (try simp only [List.map_toArray, List.map_cons, List.map_nil]); first | done | rfl | (simp only [List.length_drop, List.length_take]; rfl)) ?_
       with_reducible refine (spec_AddMoments.calls k t324 _ _ t325 t328 _ _ t329 a2 t332 t333 t336 _ ?side1 ?side2 ?side3 ?side4 A22.out).mono ?_
       (case side1 => exact uC ((Kd.R_reads' HO327.out).2.2))
       (case side2 => exact (Kd.R_reads' HO327.out).2.1)
       (case side3 => exact uC ((Kd.R_reads' HO331.out).2.2))
       (case side4 => exact (Kd.R_reads' HO331.out).2.1)
       rintro e w39 ⟨v334, rfl, ho0, hb⟩
       refine ⟨_, rfl, ?_⟩
       have n0_ := zA (Kd.R_elder' (uR HO327.out) (Kd.R_base ho0) hb)
       have n1_ := zA (Kd.R_elder' (uR HO331.out) (Kd.R_base ho0) hb)
       have n2_ := zA (Kd.R_lower (Kd.R_new' (Kd.R_new' ho0 (Kd.R_lt (uR HO327.out))) (Kd.R_lt (uR HO331.out))) (below_size (uH HB.out)))
       have n3_ := xB BK320 hb
       have n4_ := xB BK321 hb
       have n5_ := xH HB hb
       clear HO327 HO331 BK320 BK321 HB
       have HO327 := n0_; have HO331 := n1_; have HO335 := n2_; have BK320 := n3_; have BK321 := n4_; have HB := n5_
       clear n0_ n1_ n2_ n3_ n4_ n5_
       (try clear hb); (try clear hb2); (try clear hk); (try clear hi); (try clear ho0)
       refine hK.out _ _ ⟨(blk_cell BK320.out 0).trans rfl, (blk_cell BK320.out 1).trans rfl, (blk_cell BK321.out 0).trans rfl, (blk_cell BK321.out 1).trans rfl⟩ (fun hHeld => ?_)
       clear hK K
       refine norm_ (a' := ?_) ?_ ?_
       rotate_left
       ·show Act.put _ (some 35) _ = _
        simp only [Act.put, List.setIfInBounds_toArray, List.set_cons_zero, List.set_cons_succ, i64_w, i32_w]
        rfl
       refine pure_ (i := 6) (N := some 29) (v := ?_) (a' := ?_) #[true, true, true, true, true, true, true, false, false, false, false, false] rfl rfl (any_of HT_.out (by kernel_rfl)) (fun _ _ _ h => h) (Or.inl ⟨by rfl, ?_⟩) ?_ ?_
       rotate_left
       ·intro w'
        go_simp
        with_reducible rfl
       rotate_left
       ·simp only [Act.put, List.setIfInBounds_toArray, List.set_cons_zero, List.set_cons_succ, i64_w, i32_w]
        rfl
       refine pure_ (i := 7) (N := some 36) (v := ?_) (a' := ?_) #[true, true, true, true, true, true, true, true, false, false, false, false] rfl rfl (any_of HT_.out (by kernel_rfl)) (fun _ _ _ h => h) (Or.inl ⟨by rfl, ?_⟩) ?_ ?_
       rotate_left
       ·intro w'
        go_simp
        with_reducible rfl
       rotate_left
       ·simp only [Act.put, List.setIfInBounds_toArray, List.set_cons_zero, List.set_cons_succ, i64_w, i32_w]
        rfl
       refine pure_ (i := 8) (N := some 37) (v := ?_) (a' := ?_) #[true, true, true, true, true, true, true, true, true, false, false, false] rfl rfl (any_of HT_.out (by kernel_rfl)) (fun _ _ _ h => h) (Or.inl ⟨by rfl, ?_⟩) ?_ ?_
       rotate_left
       ·intro w'
        go_simp
        with_reducible rfl
       rotate_left
       ·simp only [Act.put, List.setIfInBounds_toArray, List.set_cons_zero, List.set_cons_succ, i64_w, i32_w]
        rfl
       refine one_ (i := 9) (N := some 8) #[true, true, true, true, true, true, true, true, true, true, false, false] rfl rfl (one_of HT_.out (by kernel_rfl)) (by decide) (fun K hK => ?_)
       refine box_step ?hg (N := 8) ?hd (cs := #[.int .i64 0, .slice none 0 0]) (t := 36) ?hr ?_; (case hd => rfl); (case hg => rfl); (case hr => first | (go_simp; done) | (go_simp; rfl))
       intro gb337 hg w40 hbox hb
       have n0_ := xR HO327 hb
       have n1_ := xR HO331 hb
       have n2_ := xR HO335 hb
       have n3_ := xB BK320 hb
       have n4_ := xB BK321 hb
       have n5_ := xH HB hb
       have n6_ := zA (hbox)
       have n7_ := zA ((by rw [hg]; exact (below_size (uH HB.out)) : w.heap.size ≤ gb337))
       have n8_ := zA ((by rw [hg]; exact (below_size (uH HB.out)) : w.heap.size ≤ gb337))
       have n9_ := zA ((by rw [hg]; exact neL BK320 : gb320 ≠ gb337))
       have n10_ := zA ((by rw [hg]; exact neG BK320 : gb337 ≠ gb320))
       have n11_ := zA ((by rw [hg]; exact neL BK321 : gb321 ≠ gb337))
       have n12_ := zA ((by rw [hg]; exact neG BK321 : gb337 ≠ gb321))
       clear HO327 HO331 HO335 BK320 BK321 HB
       have HO327 := n0_; have HO331 := n1_; have HO335 := n2_; have BK320 := n3_; have BK321 := n4_; have HB := n5_; have BK337 := n6_; have GW337 := n7_
       have GE337 := n8_; have := geI GE337; have NB320_337 := n9_; have NB337_320 := n10_; have NB321_337 := n11_; have NB337_321 := n12_
       clear n0_ n1_ n2_ n3_ n4_ n5_ n6_ n7_ n8_ n9_ n10_ n11_ n12_
       clear hb hbox hg
       refine hK.out _ _ ⟨(blk_cell BK320.out 0).trans rfl, (blk_cell BK320.out 1).trans rfl, (blk_cell BK321.out 0).trans rfl, (blk_cell BK321.out 1).trans rfl⟩ (fun hHeld => ?_)
       clear hK K
       refine norm_ (a' := ?_) ?_ ?_
       rotate_left
       ·show Act.put _ (some 8) _ = _
        simp only [Act.put, List.setIfInBounds_toArray, List.set_cons_zero, List.set_cons_succ, i64_w, i32_w]
        rfl
       exact norm_ (by simp only [putAll, Act.put, List.setIfInBounds_toArray, List.set_cons_zero, List.set_cons_succ]) (hCont (.slice Ao37 t325.length co37, .slice Ao38 t329.length co38, v334, gb337) _ ⟨hHeld, (uR (Kd.R_mono HO327.out (fun _ hk => ⟨hk.1.2, hk.2⟩))), (uR (Kd.R_mono HO331.out (fun _ hk => ⟨hk.1.2, hk.2⟩))), (uR (Kd.R_mono HO335.out (fun _ hk => ⟨hk.1.2, hk.2⟩))), (uB BK320.out), (uB BK321.out), (uB BK337.out), GW337.out, GE337.out, NB320_337.out, NB337_320.out, NB321_337.out, NB337_321.out, (uH HB.out)⟩)
      ·skip
       refine box_step ?hg (N := 8) ?hd (cs := #[.int .i64 0, .slice none 0 0]) (t := 36) ?hr ?_; (case hd => rfl); (case hg => rfl); (case hr => first | (go_simp; done) | (go_simp; rfl))
       intro gb337 hg w37 hbox hb
       have n0_ := xR HO327 hb
       have n1_ := xR HO331 hb
       have n2_ := xB BK320 hb
       have n3_ := xB BK321 hb
       have n4_ := xH HB hb
       have n5_ := zA (hbox)
       have n6_ := zA ((by rw [hg]; exact (below_size (uH HB.out)) : w.heap.size ≤ gb337))
       have n7_ := zA ((by rw [hg]; exact (below_size (uH HB.out)) : w.heap.size ≤ gb337))
       have n8_ := zA ((by rw [hg]; exact neL BK320 : gb320 ≠ gb337))
       have n9_ := zA ((by rw [hg]; exact neG BK320 : gb337 ≠ gb320))
       have n10_ := zA ((by rw [hg]; exact neL BK321 : gb321 ≠ gb337))
       have n11_ := zA ((by rw [hg]; exact neG BK321 : gb337 ≠ gb321))
       clear HO327 HO331 BK320 BK321 HB
       have HO327 := n0_; have HO331 := n1_; have BK320 := n2_; have BK321 := n3_; have HB := n4_; have BK337 := n5_; have GW337 := n6_
       have GE337 := n7_; have := geI GE337; have NB320_337 := n8_; have NB337_320 := n9_; have NB321_337 := n10_; have NB337_321 := n11_
       clear n0_ n1_ n2_ n3_ n4_ n5_ n6_ n7_ n8_ n9_ n10_ n11_
       clear hb hbox hg
       obtain ⟨Ao38, co38, eo38⟩ := Kd.R_slice HO327.out
       (first | subst eo38 | (injection eo38 with f1_ f2_ f3_; have f4_ := f1_.symm; have f5_ := f3_.symm; clear f1_ f2_ f3_; subst f4_; subst f5_))
       obtain ⟨Ao39, co39, eo39⟩ := Kd.R_slice HO331.out
       (first | subst eo39 | (injection eo39 with f1_ f2_ f3_; have f4_ := f1_.symm; have f5_ := f3_.symm; clear f1_ f2_ f3_; subst f4_; subst f5_))
       refine hK.out _ _ ⟨(blk_cell BK320.out 0).trans rfl, (blk_cell BK320.out 1).trans rfl, (blk_cell BK321.out 0).trans rfl, (blk_cell BK321.out 1).trans rfl⟩ (fun hHeld => ?_)
       clear hK K
       refine norm_ (a' := ?_) ?_ ?_
       rotate_left
       ·show Act.put _ (some 8) _ = _
        simp only [Act.put, List.setIfInBounds_toArray, List.set_cons_zero, List.set_cons_succ, i64_w, i32_w]
        rfl
       refine one_ (i := 5) (N := some 35) #[true, true, true, true, true, true, false, false, false, true, false, false] rfl rfl (one_of HT_.out (by kernel_rfl)) (by decide) (fun K hK => ?_)
       refine goes_ Try.func21 (by kernel_rfl) rfl #[.agg #[.int .i64 t324, .slice Ao38 t325.length co38], .agg #[.int .i64 t328, .slice Ao39 t329.length co39], .int .i64 a2] (by rfl) rfl rfl (by (try simp only [List.map_toArray, List.map_cons, List.map_nil]); first | done | rfl | (simp only [List.length_drop, List.length_take]; rfl)) ?_
       with_reducible refine (spec_AddMoments.calls k t324 _ _ t325 t328 _ _ t329 a2 t332 t333 t336 _ ?side1 ?side2 ?side3 ?side4 A22.out).mono ?_
       (case side1 => exact uC ((Kd.R_reads' HO327.out).2.2))
       (case side2 => exact (Kd.R_reads' HO327.out).2.1)
       (case side3 => exact uC ((Kd.R_reads' HO331.out).2.2))
       (case side4 => exact (Kd.R_reads' HO331.out).2.1)
       rintro e w40 ⟨v334, rfl, ho0, hb⟩
       refine ⟨_, rfl, ?_⟩
       have n0_ := zA (Kd.R_elder' (uR HO327.out) (Kd.R_base ho0) hb)
       have n1_ := zA (Kd.R_elder' (uR HO331.out) (Kd.R_base ho0) hb)
       have n2_ := zA (Kd.R_lower (Kd.R_new' (Kd.R_new' ho0 (Kd.R_lt (uR HO327.out))) (Kd.R_lt (uR HO331.out))) (below_size (uH HB.out)))
       have n3_ := xB BK320 hb
       have n4_ := xB BK321 hb
       have n5_ := xB BK337 hb
       have n6_ := xH HB hb
       clear HO327 HO331 BK320 BK321 BK337 HB
       have HO327 := n0_; have HO331 := n1_; have HO335 := n2_; have BK320 := n3_; have BK321 := n4_; have BK337 := n5_; have HB := n6_
       clear n0_ n1_ n2_ n3_ n4_ n5_ n6_
       (try clear hb); (try clear hb2); (try clear hk); (try clear hi); (try clear ho0)
       refine hK.out _ _ ⟨(blk_cell BK320.out 0).trans rfl, (blk_cell BK320.out 1).trans rfl, (blk_cell BK321.out 0).trans rfl, (blk_cell BK321.out 1).trans rfl⟩ (fun hHeld => ?_)
       clear hK K
       refine norm_ (a' := ?_) ?_ ?_
       rotate_left
       ·show Act.put _ (some 35) _ = _
        simp only [Act.put, List.setIfInBounds_toArray, List.set_cons_zero, List.set_cons_succ, i64_w, i32_w]
        rfl
       refine pure_ (i := 6) (N := some 29) (v := ?_) (a' := ?_) #[true, true, true, true, true, true, true, false, false, true, false, false] rfl rfl (any_of HT_.out (by kernel_rfl)) (fun _ _ _ h => h) (Or.inl ⟨by rfl, ?_⟩) ?_ ?_
       rotate_left
       ·intro w'
        go_simp
        with_reducible rfl
       rotate_left
       ·simp only [Act.put, List.setIfInBounds_toArray, List.set_cons_zero, List.set_cons_succ, i64_w, i32_w]
        rfl
       refine pure_ (i := 7) (N := some 36) (v := ?_) (a' := ?_) #[true, true, true, true, true, true, true, true, false, true, false, false] rfl rfl (any_of HT_.out (by kernel_rfl)) (fun _ _ _ h => h) (Or.inl ⟨by rfl, ?_⟩) ?_ ?_
       rotate_left
       ·intro w'
        go_simp
        with_reducible rfl
       rotate_left
       ·simp only [Act.put, List.setIfInBounds_toArray, List.set_cons_zero, List.set_cons_succ, i64_w, i32_w]
        rfl
       refine pure_ (i := 8) (N := some 37) (v := ?_) (a' := ?_) #[true, true, true, true, true, true, true, true, true, true, false, false] rfl rfl (any_of HT_.out (by kernel_rfl)) (fun _ _ _ h => h) (Or.inl ⟨by rfl, ?_⟩) ?_ ?_
       rotate_left
       ·intro w'
        go_simp
        with_reducible rfl
       rotate_left
       ·simp only [Act.put, List.setIfInBounds_toArray, List.set_cons_zero, List.set_cons_succ, i64_w, i32_w]
        rfl
       exact norm_ (by simp only [putAll, Act.put, List.setIfInBounds_toArray, List.set_cons_zero, List.set_cons_succ]) (hCont (.slice Ao38 t325.length co38, .slice Ao39 t329.length co39, v334, gb337) _ ⟨hHeld, (uR (Kd.R_mono HO327.out (fun _ hk => ⟨hk.1.2, hk.2⟩))), (uR (Kd.R_mono HO331.out (fun _ hk => ⟨hk.1.2, hk.2⟩))), (uR (Kd.R_mono HO335.out (fun _ hk => ⟨hk.1.2, hk.2⟩))), (uB BK320.out), (uB BK321.out), (uB BK337.out), GW337.out, GE337.out, NB320_337.out, NB337_320.out, NB321_337.out, NB337_321.out, (uH HB.out)⟩)
     ·skip
      refine box_step ?hg (N := 8) ?hd (cs := #[.int .i64 0, .slice none 0 0]) (t := 36) ?hr ?_; (case hd => rfl); (case hg => rfl); (case hr => first | (go_simp; done) | (go_simp; rfl))
      intro gb337 hg w36 hbox hb
      have n0_ := xR HO327 hb
      have n1_ := xB BK320 hb
      have n2_ := xB BK321 hb
      have n3_ := xH HB hb
      have n4_ := zA (hbox)
      have n5_ := zA ((by rw [hg]; exact (below_size (uH HB.out)) : w.heap.size ≤ gb337))
      have n6_ := zA ((by rw [hg]; exact (below_size (uH HB.out)) : w.heap.size ≤ gb337))
      have n7_ := zA ((by rw [hg]; exact neL BK320 : gb320 ≠ gb337))
      have n8_ := zA ((by rw [hg]; exact neG BK320 : gb337 ≠ gb320))
      have n9_ := zA ((by rw [hg]; exact neL BK321 : gb321 ≠ gb337))
      have n10_ := zA ((by rw [hg]; exact neG BK321 : gb337 ≠ gb321))
      clear HO327 BK320 BK321 HB
      have HO327 := n0_; have BK320 := n1_; have BK321 := n2_; have HB := n3_; have BK337 := n4_; have GW337 := n5_
      have GE337 := n6_; have := geI GE337; have NB320_337 := n7_; have NB337_320 := n8_; have NB321_337 := n9_; have NB337_321 := n10_
      clear n0_ n1_ n2_ n3_ n4_ n5_ n6_ n7_ n8_ n9_ n10_
      clear hb hbox hg
      refine hK.out _ _ ⟨(blk_cell BK320.out 0).trans rfl, (blk_cell BK320.out 1).trans rfl, (blk_cell BK321.out 0).trans rfl, (blk_cell BK321.out 1).trans rfl⟩ (fun hHeld => ?_)
      clear hK K
      refine norm_ (a' := ?_) ?_ ?_
      rotate_left
      ·show Act.put _ (some 8) _ = _
       simp only [Act.put, List.setIfInBounds_toArray, List.set_cons_zero, List.set_cons_succ, i64_w, i32_w]
       rfl
      refine one_ (i := 3) (N := some 33) #[true, true, true, true, true, false, false, false, false, true, false, false] rfl rfl (one_of HT_.out (by kernel_rfl)) (by decide) (fun K hK => ?_)
      refine goes_ Try.func16 (by kernel_rfl) rfl #[.agg #[.int .i64 a1_0, .slice A1_1 l1_1.length c1_1]] (by rfl) rfl rfl (by (try simp only [List.map_toArray, List.map_cons, List.map_nil]); first | done | rfl | (simp only [List.length_drop, List.length_take]; rfl)) ?_
      with_reducible refine (laws_toMoments.calls k a1_0 _ _ l1_1 t328 t329 _ ?side1 ?side2 A21.out).mono ?_
      (case side1 => exact uC ((Kd.C_below HR1_1.out HB.out)))
      (case side2 => exact HC1_1.out)
      rintro e w37 ⟨v330, rfl, ho0, hb⟩
      refine ⟨_, rfl, ?_⟩
      have n0_ := zA (Kd.R_elder' (uR HO327.out) (Kd.R_base ho0) hb)
      have n1_ := zA (Kd.R_lower (Kd.R_new' ho0 (Kd.R_lt (uR HO327.out))) (below_size (uH HB.out)))
      have n2_ := xB BK320 hb
      have n3_ := xB BK321 hb
      have n4_ := xB BK337 hb
      have n5_ := xH HB hb
      clear HO327 BK320 BK321 BK337 HB
      have HO327 := n0_; have HO331 := n1_; have BK320 := n2_; have BK321 := n3_; have BK337 := n4_; have HB := n5_
      clear n0_ n1_ n2_ n3_ n4_ n5_
      (try clear hb); (try clear hb2); (try clear hk); (try clear hi); (try clear ho0)
      obtain ⟨Ao38, co38, eo38⟩ := Kd.R_slice HO327.out
      (first | subst eo38 | (injection eo38 with f1_ f2_ f3_; have f4_ := f1_.symm; have f5_ := f3_.symm; clear f1_ f2_ f3_; subst f4_; subst f5_))
      obtain ⟨Ao39, co39, eo39⟩ := Kd.R_slice HO331.out
      (first | subst eo39 | (injection eo39 with f1_ f2_ f3_; have f4_ := f1_.symm; have f5_ := f3_.symm; clear f1_ f2_ f3_; subst f4_; subst f5_))
      refine hK.out _ _ ⟨(blk_cell BK320.out 0).trans rfl, (blk_cell BK320.out 1).trans rfl, (blk_cell BK321.out 0).trans rfl, (blk_cell BK321.out 1).trans rfl⟩ (fun hHeld => ?_)
      clear hK K
      refine norm_ (a' := ?_) ?_ ?_
      rotate_left
      ·show Act.put _ (some 33) _ = _
       simp only [Act.put, List.setIfInBounds_toArray, List.set_cons_zero, List.set_cons_succ, i64_w, i32_w]
       rfl
      refine one_ (i := 5) (N := some 35) #[true, true, true, true, true, true, false, false, false, true, false, false] rfl rfl (one_of HT_.out (by kernel_rfl)) (by decide) (fun K hK => ?_)
      refine goes_ Try.func21 (by kernel_rfl) rfl #[.agg #[.int .i64 t324, .slice Ao38 t325.length co38], .agg #[.int .i64 t328, .slice Ao39 t329.length co39], .int .i64 a2] (by rfl) rfl rfl (by (try simp only [List.map_toArray, List.map_cons, List.map_nil]); first | done | rfl | (simp only [List.length_drop, List.length_take]; rfl)) ?_
      with_reducible refine (spec_AddMoments.calls k t324 _ _ t325 t328 _ _ t329 a2 t332 t333 t336 _ ?side1 ?side2 ?side3 ?side4 A22.out).mono ?_
      (case side1 => exact uC ((Kd.R_reads' HO327.out).2.2))
      (case side2 => exact (Kd.R_reads' HO327.out).2.1)
      (case side3 => exact uC ((Kd.R_reads' HO331.out).2.2))
      (case side4 => exact (Kd.R_reads' HO331.out).2.1)
      rintro e w40 ⟨v334, rfl, ho0, hb⟩
      refine ⟨_, rfl, ?_⟩
      have n0_ := zA (Kd.R_elder' (uR HO327.out) (Kd.R_base ho0) hb)
      have n1_ := zA (Kd.R_elder' (uR HO331.out) (Kd.R_base ho0) hb)
      have n2_ := zA (Kd.R_lower (Kd.R_new' (Kd.R_new' ho0 (Kd.R_lt (uR HO327.out))) (Kd.R_lt (uR HO331.out))) (below_size (uH HB.out)))
      have n3_ := xB BK320 hb
      have n4_ := xB BK321 hb
      have n5_ := xB BK337 hb
      have n6_ := xH HB hb
      clear HO327 HO331 BK320 BK321 BK337 HB
      have HO327 := n0_; have HO331 := n1_; have HO335 := n2_; have BK320 := n3_; have BK321 := n4_; have BK337 := n5_; have HB := n6_
      clear n0_ n1_ n2_ n3_ n4_ n5_ n6_
      (try clear hb); (try clear hb2); (try clear hk); (try clear hi); (try clear ho0)
      refine hK.out _ _ ⟨(blk_cell BK320.out 0).trans rfl, (blk_cell BK320.out 1).trans rfl, (blk_cell BK321.out 0).trans rfl, (blk_cell BK321.out 1).trans rfl⟩ (fun hHeld => ?_)
      clear hK K
      refine norm_ (a' := ?_) ?_ ?_
      rotate_left
      ·show Act.put _ (some 35) _ = _
       simp only [Act.put, List.setIfInBounds_toArray, List.set_cons_zero, List.set_cons_succ, i64_w, i32_w]
       rfl
      refine pure_ (i := 6) (N := some 29) (v := ?_) (a' := ?_) #[true, true, true, true, true, true, true, false, false, true, false, false] rfl rfl (any_of HT_.out (by kernel_rfl)) (fun _ _ _ h => h) (Or.inl ⟨by rfl, ?_⟩) ?_ ?_
      rotate_left
      ·intro w'
       go_simp
       with_reducible rfl
      rotate_left
      ·simp only [Act.put, List.setIfInBounds_toArray, List.set_cons_zero, List.set_cons_succ, i64_w, i32_w]
       rfl
      refine pure_ (i := 7) (N := some 36) (v := ?_) (a' := ?_) #[true, true, true, true, true, true, true, true, false, true, false, false] rfl rfl (any_of HT_.out (by kernel_rfl)) (fun _ _ _ h => h) (Or.inl ⟨by rfl, ?_⟩) ?_ ?_
      rotate_left
      ·intro w'
       go_simp
       with_reducible rfl
      rotate_left
      ·simp only [Act.put, List.setIfInBounds_toArray, List.set_cons_zero, List.set_cons_succ, i64_w, i32_w]
       rfl
      refine pure_ (i := 8) (N := some 37) (v := ?_) (a' := ?_) #[true, true, true, true, true, true, true, true, true, true, false, false] rfl rfl (any_of HT_.out (by kernel_rfl)) (fun _ _ _ h => h) (Or.inl ⟨by rfl, ?_⟩) ?_ ?_
      rotate_left
      ·intro w'
       go_simp
       with_reducible rfl
      rotate_left
      ·simp only [Act.put, List.setIfInBounds_toArray, List.set_cons_zero, List.set_cons_succ, i64_w, i32_w]
       rfl
      exact norm_ (by simp only [putAll, Act.put, List.setIfInBounds_toArray, List.set_cons_zero, List.set_cons_succ]) (hCont (.slice Ao38 t325.length co38, .slice Ao39 t329.length co39, v334, gb337) _ ⟨hHeld, (uR (Kd.R_mono HO327.out (fun _ hk => ⟨hk.1.2, hk.2⟩))), (uR (Kd.R_mono HO331.out (fun _ hk => ⟨hk.1.2, hk.2⟩))), (uR (Kd.R_mono HO335.out (fun _ hk => ⟨hk.1.2, hk.2⟩))), (uB BK320.out), (uB BK321.out), (uB BK337.out), GW337.out, GE337.out, NB320_337.out, NB337_320.out, NB321_337.out, NB337_321.out, (uH HB.out)⟩)
    ·skip
     refine box_step ?hg (N := 8) ?hd (cs := #[.int .i64 0, .slice none 0 0]) (t := 36) ?hr ?_; (case hd => rfl); (case hg => rfl); (case hr => first | (go_simp; done) | (go_simp; rfl))
     intro gb337 hg w35 hbox hb
     have n0_ := xB BK320 hb
     have n1_ := xB BK321 hb
     have n2_ := xH HB hb
     have n3_ := zA (hbox)
     have n4_ := zA ((by rw [hg]; exact (below_size (uH HB.out)) : w.heap.size ≤ gb337))
     have n5_ := zA ((by rw [hg]; exact (below_size (uH HB.out)) : w.heap.size ≤ gb337))
     have n6_ := zA ((by rw [hg]; exact neL BK320 : gb320 ≠ gb337))
     have n7_ := zA ((by rw [hg]; exact neG BK320 : gb337 ≠ gb320))
     have n8_ := zA ((by rw [hg]; exact neL BK321 : gb321 ≠ gb337))
     have n9_ := zA ((by rw [hg]; exact neG BK321 : gb337 ≠ gb321))
     clear BK320 BK321 HB
     have BK320 := n0_; have BK321 := n1_; have HB := n2_; have BK337 := n3_; have GW337 := n4_
     have GE337 := n5_; have := geI GE337; have NB320_337 := n6_; have NB337_320 := n7_; have NB321_337 := n8_; have NB337_321 := n9_
     clear n0_ n1_ n2_ n3_ n4_ n5_ n6_ n7_ n8_ n9_
     clear hb hbox hg
     refine hK.out _ _ ⟨(blk_cell BK320.out 0).trans rfl, (blk_cell BK320.out 1).trans rfl, (blk_cell BK321.out 0).trans rfl, (blk_cell BK321.out 1).trans rfl⟩ (fun hHeld => ?_)
     clear hK K
     refine norm_ (a' := ?_) ?_ ?_
     rotate_left
     ·show Act.put _ (some 8) _ = _
      simp only [Act.put, List.setIfInBounds_toArray, List.set_cons_zero, List.set_cons_succ, i64_w, i32_w]
      rfl
     refine one_ (i := 1) (N := some 31) #[true, true, true, false, true, false, false, false, false, true, false, false] rfl rfl (one_of HT_.out (by kernel_rfl)) (by decide) (fun K hK => ?_)
     refine goes_ Try.func16 (by kernel_rfl) rfl #[.agg #[.int .i64 a0_0, .slice A0_1 l0_1.length c0_1]] (by rfl) rfl rfl (by (try simp only [List.map_toArray, List.map_cons, List.map_nil]); first | done | rfl | (simp only [List.length_drop, List.length_take]; rfl)) ?_
     with_reducible refine (laws_toMoments.calls k a0_0 _ _ l0_1 t324 t325 _ ?side1 ?side2 A20.out).mono ?_
     (case side1 => exact uC ((Kd.C_below HR0_1.out HB.out)))
     (case side2 => exact HC0_1.out)
     rintro e w36 ⟨v326, rfl, ho0, hb⟩
     refine ⟨_, rfl, ?_⟩
     have n0_ := zA (Kd.R_lower ho0 (below_size (uH HB.out)))
     have n1_ := xB BK320 hb
     have n2_ := xB BK321 hb
     have n3_ := xB BK337 hb
     have n4_ := xH HB hb
     clear BK320 BK321 BK337 HB
     have HO327 := n0_; have BK320 := n1_; have BK321 := n2_; have BK337 := n3_; have HB := n4_
     clear n0_ n1_ n2_ n3_ n4_
     (try clear hb); (try clear hb2); (try clear hk); (try clear hi); (try clear ho0)
     refine hK.out _ _ ⟨(blk_cell BK320.out 0).trans rfl, (blk_cell BK320.out 1).trans rfl, (blk_cell BK321.out 0).trans rfl, (blk_cell BK321.out 1).trans rfl⟩ (fun hHeld => ?_)
     clear hK K
     refine norm_ (a' := ?_) ?_ ?_
     rotate_left
     ·show Act.put _ (some 31) _ = _
      simp only [Act.put, List.setIfInBounds_toArray, List.set_cons_zero, List.set_cons_succ, i64_w, i32_w]
      rfl
     refine one_ (i := 3) (N := some 33) #[true, true, true, true, true, false, false, false, false, true, false, false] rfl rfl (one_of HT_.out (by kernel_rfl)) (by decide) (fun K hK => ?_)
     refine goes_ Try.func16 (by kernel_rfl) rfl #[.agg #[.int .i64 a1_0, .slice A1_1 l1_1.length c1_1]] (by rfl) rfl rfl (by (try simp only [List.map_toArray, List.map_cons, List.map_nil]); first | done | rfl | (simp only [List.length_drop, List.length_take]; rfl)) ?_
     with_reducible refine (laws_toMoments.calls k a1_0 _ _ l1_1 t328 t329 _ ?side1 ?side2 A21.out).mono ?_
     (case side1 => exact uC ((Kd.C_below HR1_1.out HB.out)))
     (case side2 => exact HC1_1.out)
     rintro e w37 ⟨v330, rfl, ho0, hb⟩
     refine ⟨_, rfl, ?_⟩
     have n0_ := zA (Kd.R_elder' (uR HO327.out) (Kd.R_base ho0) hb)
     have n1_ := zA (Kd.R_lower (Kd.R_new' ho0 (Kd.R_lt (uR HO327.out))) (below_size (uH HB.out)))
     have n2_ := xB BK320 hb
     have n3_ := xB BK321 hb
     have n4_ := xB BK337 hb
     have n5_ := xH HB hb
     clear HO327 BK320 BK321 BK337 HB
     have HO327 := n0_; have HO331 := n1_; have BK320 := n2_; have BK321 := n3_; have BK337 := n4_; have HB := n5_
     clear n0_ n1_ n2_ n3_ n4_ n5_
     (try clear hb); (try clear hb2); (try clear hk); (try clear hi); (try clear ho0)
     obtain ⟨Ao38, co38, eo38⟩ := Kd.R_slice HO327.out
     (first | subst eo38 | (injection eo38 with f1_ f2_ f3_; have f4_ := f1_.symm; have f5_ := f3_.symm; clear f1_ f2_ f3_; subst f4_; subst f5_))
     obtain ⟨Ao39, co39, eo39⟩ := Kd.R_slice HO331.out
     (first | subst eo39 | (injection eo39 with f1_ f2_ f3_; have f4_ := f1_.symm; have f5_ := f3_.symm; clear f1_ f2_ f3_; subst f4_; subst f5_))
     refine hK.out _ _ ⟨(blk_cell BK320.out 0).trans rfl, (blk_cell BK320.out 1).trans rfl, (blk_cell BK321.out 0).trans rfl, (blk_cell BK321.out 1).trans rfl⟩ (fun hHeld => ?_)
     clear hK K
     refine norm_ (a' := ?_) ?_ ?_
     rotate_left
     ·show Act.put _ (some 33) _ = _
      simp only [Act.put, List.setIfInBounds_toArray, List.set_cons_zero, List.set_cons_succ, i64_w, i32_w]
      rfl
     refine one_ (i := 5) (N := some 35) #[true, true, true, true, true, true, false, false, false, true, false, false] rfl rfl (one_of HT_.out (by kernel_rfl)) (by decide) (fun K hK => ?_)
     refine goes_ Try.func21 (by kernel_rfl) rfl #[.agg #[.int .i64 t324, .slice Ao38 t325.length co38], .agg #[.int .i64 t328, .slice Ao39 t329.length co39], .int .i64 a2] (by rfl) rfl rfl (by (try simp only [List.map_toArray, List.map_cons, List.map_nil]); first | done | rfl | (simp only [List.length_drop, List.length_take]; rfl)) ?_
     with_reducible refine (spec_AddMoments.calls k t324 _ _ t325 t328 _ _ t329 a2 t332 t333 t336 _ ?side1 ?side2 ?side3 ?side4 A22.out).mono ?_
     (case side1 => exact uC ((Kd.R_reads' HO327.out).2.2))
     (case side2 => exact (Kd.R_reads' HO327.out).2.1)
     (case side3 => exact uC ((Kd.R_reads' HO331.out).2.2))
     (case side4 => exact (Kd.R_reads' HO331.out).2.1)
     rintro e w40 ⟨v334, rfl, ho0, hb⟩
     refine ⟨_, rfl, ?_⟩
     have n0_ := zA (Kd.R_elder' (uR HO327.out) (Kd.R_base ho0) hb)
     have n1_ := zA (Kd.R_elder' (uR HO331.out) (Kd.R_base ho0) hb)
     have n2_ := zA (Kd.R_lower (Kd.R_new' (Kd.R_new' ho0 (Kd.R_lt (uR HO327.out))) (Kd.R_lt (uR HO331.out))) (below_size (uH HB.out)))
     have n3_ := xB BK320 hb
     have n4_ := xB BK321 hb
     have n5_ := xB BK337 hb
     have n6_ := xH HB hb
     clear HO327 HO331 BK320 BK321 BK337 HB
     have HO327 := n0_; have HO331 := n1_; have HO335 := n2_; have BK320 := n3_; have BK321 := n4_; have BK337 := n5_; have HB := n6_
     clear n0_ n1_ n2_ n3_ n4_ n5_ n6_
     (try clear hb); (try clear hb2); (try clear hk); (try clear hi); (try clear ho0)
     refine hK.out _ _ ⟨(blk_cell BK320.out 0).trans rfl, (blk_cell BK320.out 1).trans rfl, (blk_cell BK321.out 0).trans rfl, (blk_cell BK321.out 1).trans rfl⟩ (fun hHeld => ?_)
     clear hK K
     refine norm_ (a' := ?_) ?_ ?_
     rotate_left
     ·show Act.put _ (some 35) _ = _
      simp only [Act.put, List.setIfInBounds_toArray, List.set_cons_zero, List.set_cons_succ, i64_w, i32_w]
      rfl
     refine pure_ (i := 6) (N := some 29) (v := ?_) (a' := ?_) #[true, true, true, true, true, true, true, false, false, true, false, false] rfl rfl (any_of HT_.out (by kernel_rfl)) (fun _ _ _ h => h) (Or.inl ⟨by rfl, ?_⟩) ?_ ?_
     rotate_left
     ·intro w'
      go_simp
      with_reducible rfl
     rotate_left
     ·simp only [Act.put, List.setIfInBounds_toArray, List.set_cons_zero, List.set_cons_succ, i64_w, i32_w]
      rfl
     refine pure_ (i := 7) (N := some 36) (v := ?_) (a' := ?_) #[true, true, true, true, true, true, true, true, false, true, false, false] rfl rfl (any_of HT_.out (by kernel_rfl)) (fun _ _ _ h => h) (Or.inl ⟨by rfl, ?_⟩) ?_ ?_
     rotate_left
     ·intro w'
      go_simp
      with_reducible rfl
     rotate_left
     ·simp only [Act.put, List.setIfInBounds_toArray, List.set_cons_zero, List.set_cons_succ, i64_w, i32_w]
      rfl
     refine pure_ (i := 8) (N := some 37) (v := ?_) (a' := ?_) #[true, true, true, true, true, true, true, true, true, true, false, false] rfl rfl (any_of HT_.out (by kernel_rfl)) (fun _ _ _ h => h) (Or.inl ⟨by rfl, ?_⟩) ?_ ?_
     rotate_left
     ·intro w'
      go_simp
      with_reducible rfl
     rotate_left
     ·simp only [Act.put, List.setIfInBounds_toArray, List.set_cons_zero, List.set_cons_succ, i64_w, i32_w]
      rfl
     exact norm_ (by simp only [putAll, Act.put, List.setIfInBounds_toArray, List.set_cons_zero, List.set_cons_succ]) (hCont (.slice Ao38 t325.length co38, .slice Ao39 t329.length co39, v334, gb337) _ ⟨hHeld, (uR (Kd.R_mono HO327.out (fun _ hk => ⟨hk.1.2, hk.2⟩))), (uR (Kd.R_mono HO331.out (fun _ hk => ⟨hk.1.2, hk.2⟩))), (uR (Kd.R_mono HO335.out (fun _ hk => ⟨hk.1.2, hk.2⟩))), (uB BK320.out), (uB BK321.out), (uB BK337.out), GW337.out, GE337.out, NB320_337.out, NB337_320.out, NB321_337.out, NB337_321.out, (uH HB.out)⟩)
   rintro ⟨v326, v330, v334, gb337⟩ w41 ⟨hS_, h0_, h1_, h2_, h3_, h4_, h5_, h6_, h7_, h8_, h9_, h10_, h11_, h12_⟩
   have n0_ : Aside0 (Kd.R (Kd.int .i64) 2 w41 w.heap.size (fun k_ => some k_ ≠ (v330 : Value).ownBlock ∧ some k_ ≠ (v334 : Value).ownBlock) v326 t325) := ⟨h0_⟩
   have n1_ : Aside0 (Kd.R (Kd.int .i64) 2 w41 w.heap.size (fun k_ => some k_ ≠ (v326 : Value).ownBlock ∧ some k_ ≠ (v334 : Value).ownBlock) v330 t329) := ⟨h1_⟩
   have n2_ : Aside0 (Kd.R (Kd.int .i64) 2 w41 w.heap.size (fun k_ => some k_ ≠ (v326 : Value).ownBlock ∧ some k_ ≠ (v330 : Value).ownBlock) v334 t333) := ⟨h2_⟩
   have n3_ : Aside0 (w41.heap[gb320]? = some (.cells #[.int .i64 a0_0, .slice A0_1 l0_1.length c0_1] 32 (0, 0))) := ⟨h3_⟩
   have n4_ : Aside0 (w41.heap[gb321]? = some (.cells #[.int .i64 a1_0, .slice A1_1 l1_1.length c1_1] 32 (0, 0))) := ⟨h4_⟩
   have n5_ : Aside0 (w41.heap[gb337]? = some (.cells #[.int .i64 0, .slice none 0 0] 36 (0, 0))) := ⟨h5_⟩
   have n6_ : Aside0 (w.heap.size ≤ gb337) := ⟨h6_⟩
   have n7_ : Aside0 (w.heap.size ≤ gb337) := ⟨h7_⟩
   have n8_ : Aside0 (gb320 ≠ gb337) := ⟨h8_⟩
   have n9_ : Aside0 (gb337 ≠ gb320) := ⟨h9_⟩
   have n10_ : Aside0 (gb321 ≠ gb337) := ⟨h10_⟩
   have n11_ : Aside0 (gb337 ≠ gb321) := ⟨h11_⟩
   have n12_ : Aside0 (Below w.heap.size w w41) := ⟨h12_⟩
   clear BK320 BK321 HB
   clear h0_ h1_ h2_ h3_ h4_ h5_ h6_ h7_ h8_ h9_ h10_ h11_ h12_
   have HO327 := n0_; have HO331 := n1_; have HO335 := n2_; have BK320 := n3_; have BK321 := n4_; have BK337 := n5_; have GW337 := n6_
   have GE337 := n7_; have := geI GE337; have NB320_337 := n8_; have NB337_320 := n9_; have NB321_337 := n10_; have NB337_321 := n11_; have HB := n12_
   clear n0_ n1_ n2_ n3_ n4_ n5_ n6_ n7_ n8_ n9_ n10_ n11_ n12_
   have hHeld : w41.cell? ⟨gb320, 0, none⟩ = some (.int .i64 a0_0) ∧ w41.cell? ⟨gb320, 1, none⟩ = some (.slice A0_1 l0_1.length c0_1) ∧ w41.cell? ⟨gb321, 0, none⟩ = some (.int .i64 a1_0) ∧ w41.cell? ⟨gb321, 1, none⟩ = some (.slice A1_1 l1_1.length c1_1) := hS_
   obtain ⟨Ao43, co43, eo43⟩ := Kd.R_slice HO335.out
   (first | subst eo43 | (injection eo43 with f1_ f2_ f3_; have f4_ := f1_.symm; have f5_ := f3_.symm; clear f1_ f2_ f3_; subst f4_; subst f5_))
   refine norm_ (a' := ?_) ?_ ?_
   rotate_left
   ·simp only [putAll, Act.put, List.setIfInBounds_toArray, List.set_cons_zero, List.set_cons_succ]
    rfl
   refine one_ (i := 10) (N := none) #[true, true, true, true, true, true, true, true, true, true, true, false] rfl rfl (one_of HT_.out (by kernel_rfl)) (by decide) (fun K hK => ?_)
   have hs42 : w41.cell? ⟨gb337, 0, none⟩ = some (.int .i64 0) := (blk_cell BK337.out 0).trans rfl
   have hfs42 := blk_frozen BK337.out 0
   have hns42_0 := NB320_337.out; have hns42_1 := NB321_337.out; have hms42_0 := NB337_320.out; have hms42_1 := NB337_321.out
   have hs44 : w41.cell? ⟨gb337, 1, none⟩ = some (.slice none 0 0) := (blk_cell BK337.out 1).trans rfl
   have hfs44 := blk_frozen BK337.out 1
   have hns44_0 := NB320_337.out; have hns44_1 := NB321_337.out; have hms44_0 := NB337_320.out; have hms44_1 := NB337_321.out
   refine skip_ (w1 := ?_) (by rfl) rfl ?_ ?_
   rotate_left
   ·go_simp
    rfl
   refine hK.out _ _ ⟨((cell_far (p := ⟨gb337, _, none⟩) NB320_337.out _).trans (((cell_far (p := ⟨gb337, _, none⟩) NB320_337.out _).trans (hHeld.1)))), ((cell_far (p := ⟨gb337, _, none⟩) NB320_337.out _).trans (((cell_far (p := ⟨gb337, _, none⟩) NB320_337.out _).trans (hHeld.2.1)))), ((cell_far (p := ⟨gb337, _, none⟩) NB321_337.out _).trans (((cell_far (p := ⟨gb337, _, none⟩) NB321_337.out _).trans (hHeld.2.2.1)))), ((cell_far (p := ⟨gb337, _, none⟩) NB321_337.out _).trans (((cell_far (p := ⟨gb337, _, none⟩) NB321_337.out _).trans (hHeld.2.2.2))))⟩ (fun hHeld => ?_)
   clear hK K
   refine pure_ (i := 11) (N := some 9) (v := ?_) (a' := ?_) #[true, true, true, true, true, true, true, true, true, true, true, true] rfl rfl (any_of HT_.out (by kernel_rfl)) (fun _ _ _ h => h) (Or.inl ⟨by rfl, ?_⟩) ?_ ?_
   rotate_left
   ·intro w'
    go_simp
    with_reducible rfl
   rotate_left
   ·simp only [Act.put, List.setIfInBounds_toArray, List.set_cons_zero, List.set_cons_succ, i64_w, i32_w]
    rfl
   refine done_ (done_of HT_.out (by kernel_rfl)) ?_
   have hnb45 := NB320_337.out; have hnc45 := NB337_320.out
   have hcz46_0 : w41.cell? ⟨gb320, 0, none⟩ = some (.int .i64 a0_0) := (blk_cell BK320.out 0).trans rfl
   have hcz46_1 : w41.cell? ⟨gb320, 1, none⟩ = some (.slice A0_1 l0_1.length c0_1) := (blk_cell BK320.out 1).trans rfl
   have hfz46_0 := blk_frozen BK320.out 0
   have hfz46_1 := blk_frozen BK320.out 1
   go_upto_region 12 with (first | ((with_reducible refine gate_callee (f := 16) rfl ?_); refine goesL_ (some 39) rfl rfl Try.func16 (by kernel_rfl) rfl #[.agg #[.int .i64 a0_0, .slice A0_1 l0_1.length c0_1]] rfl (by (try simp only [List.map_toArray, List.map_cons, List.map_nil]); first | done | rfl | (simp only [List.length_drop, List.length_take]; rfl)) ?_; (with_reducible refine (laws_toMoments.calls k a0_0 _ _ l0_1 t338 t339 _ ?side1 ?side2 A23.out).mono ?_); (case side1 => exact Kd.C_below HR0_1.out (uH HB.out)); (case side2 => exact HC0_1.out); rintro e w47 ⟨v340, rfl, ho0, hb⟩; refine ⟨_, rfl, ?_⟩; have n0_ := zA (Kd.R_elder' (uR ((Kd.R_mono (Kd.R_far (p := ⟨gb337, 1, none⟩) (Kd.R_far (p := ⟨gb337, 0, none⟩) (Kd.R_types HO327.out BK337.out (by decide)) (fun _ hk => hk.2) (.int .i64 t332)) (fun _ hk => hk.2) (.slice Ao43 t333.length co43)) (fun _ h_ => h_.1)))) (Kd.R_base ho0) hb); have n1_ := zA (Kd.R_elder' (uR ((Kd.R_mono (Kd.R_far (p := ⟨gb337, 1, none⟩) (Kd.R_far (p := ⟨gb337, 0, none⟩) (Kd.R_types HO331.out BK337.out (by decide)) (fun _ hk => hk.2) (.int .i64 t332)) (fun _ hk => hk.2) (.slice Ao43 t333.length co43)) (fun _ h_ => h_.1)))) (Kd.R_base ho0) hb); have n2_ := zA (Kd.R_elder' (uR ((Kd.R_mono (Kd.R_far (p := ⟨gb337, 1, none⟩) (Kd.R_far (p := ⟨gb337, 0, none⟩) (Kd.R_types HO335.out BK337.out (by decide)) (fun _ hk => hk.2) (.int .i64 t332)) (fun _ hk => hk.2) (.slice Ao43 t333.length co43)) (fun _ h_ => h_.1)))) (Kd.R_base ho0) hb); have n3_ := zA (Kd.R_lower (Kd.R_new' (Kd.R_new' (Kd.R_new' ho0 (Kd.R_lt (uR ((Kd.R_mono (Kd.R_far (p := ⟨gb337, 1, none⟩) (Kd.R_far (p := ⟨gb337, 0, none⟩) (Kd.R_types HO327.out BK337.out (by decide)) (fun _ hk => hk.2) (.int .i64 t332)) (fun _ hk => hk.2) (.slice Ao43 t333.length co43)) (fun _ h_ => h_.1)))))) (Kd.R_lt (uR ((Kd.R_mono (Kd.R_far (p := ⟨gb337, 1, none⟩) (Kd.R_far (p := ⟨gb337, 0, none⟩) (Kd.R_types HO331.out BK337.out (by decide)) (fun _ hk => hk.2) (.int .i64 t332)) (fun _ hk => hk.2) (.slice Ao43 t333.length co43)) (fun _ h_ => h_.1)))))) (Kd.R_lt (uR ((Kd.R_mono (Kd.R_far (p := ⟨gb337, 1, none⟩) (Kd.R_far (p := ⟨gb337, 0, none⟩) (Kd.R_types HO335.out BK337.out (by decide)) (fun _ hk => hk.2) (.int .i64 t332)) (fun _ hk => hk.2) (.slice Ao43 t333.length co43)) (fun _ h_ => h_.1)))))) (below_size (uH HB.out))); have n4_ := zA (blk_below (g := gb320) (o := .cells #[.int .i64 a0_0, .slice A0_1 l0_1.length c0_1] 32 (0, 0)) (by (with_reducible repeat (first | refine blk_drewN ?_ _ | refine blk_drew ?_ | refine blk_alloc ?_ _)); refine blk_far ?_ NB320_337.out _; (with_reducible repeat (first | refine blk_drewN ?_ _ | refine blk_drew ?_ | refine blk_alloc ?_ _)); refine blk_far ?_ NB320_337.out _; (with_reducible repeat (first | refine blk_drewN ?_ _ | refine blk_drew ?_ | refine blk_alloc ?_ _)); exact BK320.out) hb); have n5_ := zA (blk_below (g := gb321) (o := .cells #[.int .i64 a1_0, .slice A1_1 l1_1.length c1_1] 32 (0, 0)) (by (with_reducible repeat (first | refine blk_drewN ?_ _ | refine blk_drew ?_ | refine blk_alloc ?_ _)); refine blk_far ?_ NB321_337.out _; (with_reducible repeat (first | refine blk_drewN ?_ _ | refine blk_drew ?_ | refine blk_alloc ?_ _)); refine blk_far ?_ NB321_337.out _; (with_reducible repeat (first | refine blk_drewN ?_ _ | refine blk_drew ?_ | refine blk_alloc ?_ _)); exact BK321.out) hb); have n6_ := zA (blk_below (g := gb337) (o := .cells #[.int .i64 t332, .slice Ao43 t333.length co43] 36 (0, 0)) (by (with_reducible repeat (first | refine blk_drewN ?_ _ | refine blk_drew ?_ | refine blk_alloc ?_ _)); refine blk_put (cs := #[.int .i64 t332, .slice none 0 0]) ?_ 1 _ rfl; (with_reducible repeat (first | refine blk_drewN ?_ _ | refine blk_drew ?_ | refine blk_alloc ?_ _)); refine blk_put (cs := #[.int .i64 0, .slice none 0 0]) ?_ 0 _ rfl; (with_reducible repeat (first | refine blk_drewN ?_ _ | refine blk_drew ?_ | refine blk_alloc ?_ _)); exact BK337.out) hb); have n7_ := xH HB hb; clear HO327 HO331 HO335 BK320 BK321 BK337 HB; have HO327 := n0_; have HO331 := n1_; have HO335 := n2_; have HO341 := n3_; have BK320 := n4_; have BK321 := n5_; have BK337 := n6_; have HB := n7_; clear n0_ n1_ n2_ n3_ n4_ n5_ n6_ n7_; (try clear hb); (try clear hb2); (try clear hk); (try clear hi); (try clear ho0)) | ((with_reducible refine gate_dst (N := 10) rfl ?_); refine box_event ?hg (N := 10) ?hd (cs := #[.int .i64 0, .slice none 0 0]) (t := 36) ?hr ?_; (case hd => rfl); (case hg => rfl); (case hr => first | (go_simp; done) | (go_simp; rfl)); intro gb342 hg w48 hbox hb; have n0_ := xR HO327 hb; have n1_ := xR HO331 hb; have n2_ := xR HO335 hb; have n3_ := xR HO341 hb; have n4_ := xB BK320 hb; have n5_ := xB BK321 hb; have n6_ := xB BK337 hb; have n7_ := xH HB hb; have n8_ := zA (hbox); have n9_ := zA ((by rw [hg]; exact (below_size (uH HB.out)) : w.heap.size ≤ gb342)); have n10_ := zA ((by rw [hg]; exact (below_size (uH HB.out)) : w.heap.size ≤ gb342)); have n11_ := zA ((by rw [hg]; exact neL BK320 : gb320 ≠ gb342)); have n12_ := zA ((by rw [hg]; exact neG BK320 : gb342 ≠ gb320)); have n13_ := zA ((by rw [hg]; exact neL BK321 : gb321 ≠ gb342)); have n14_ := zA ((by rw [hg]; exact neG BK321 : gb342 ≠ gb321)); have n15_ := zA ((by rw [hg]; exact neL BK337 : gb337 ≠ gb342)); have n16_ := zA ((by rw [hg]; exact neG BK337 : gb342 ≠ gb337)); clear HO327 HO331 HO335 HO341 BK320 BK321 BK337 HB; have HO327 := n0_; have HO331 := n1_; have HO335 := n2_; have HO341 := n3_; have BK320 := n4_; have BK321 := n5_; have BK337 := n6_; have HB := n7_; have BK342 := n8_; have GW342 := n9_; have GE342 := n10_; have := geI GE342; have NB320_342 := n11_; have NB342_320 := n12_; have NB321_342 := n13_; have NB342_321 := n14_; have NB337_342 := n15_; have NB342_337 := n16_; clear n0_ n1_ n2_ n3_ n4_ n5_ n6_ n7_ n8_ n9_ n10_ n11_ n12_ n13_ n14_ n15_ n16_ hb hbox hg; have hnb49 := NB342_320.out; have hnc49 := NB320_342.out; have hnb50 := NB342_321.out; have hnc50 := NB321_342.out; have hnb51 := NB342_337.out; have hnc51 := NB337_342.out; have hcz52_0 : w48.cell? ⟨gb342, 0, none⟩ = some (.int .i64 0) := (blk_cell BK342.out 0).trans rfl; have hcz52_1 : w48.cell? ⟨gb342, 1, none⟩ = some (.slice none 0 0) := (blk_cell BK342.out 1).trans rfl; have hfz52_0 := blk_frozen BK342.out 0; have hfz52_1 := blk_frozen BK342.out 1; obtain ⟨Ao53, co53, eo53⟩ := Kd.R_slice HO341.out; subst eo53; have hnb54 := NB321_337.out; have hnc54 := NB337_321.out; have hcz55_0 : w48.cell? ⟨gb321, 0, none⟩ = some (.int .i64 a1_0) := (blk_cell BK321.out 0).trans rfl; have hcz55_1 : w48.cell? ⟨gb321, 1, none⟩ = some (.slice A1_1 l1_1.length c1_1) := (blk_cell BK321.out 1).trans rfl; have hfz55_0 := blk_frozen BK321.out 0; have hfz55_1 := blk_frozen BK321.out 1) | ((with_reducible refine gate_callee (f := 16) rfl ?_); refine goesL_ (some 41) rfl rfl Try.func16 (by kernel_rfl) rfl #[.agg #[.int .i64 a1_0, .slice A1_1 l1_1.length c1_1]] rfl (by (try simp only [List.map_toArray, List.map_cons, List.map_nil]); first | done | rfl | (simp only [List.length_drop, List.length_take]; rfl)) ?_; (with_reducible refine (laws_toMoments.calls k a1_0 _ _ l1_1 t343 t344 _ ?side1 ?side2 A24.out).mono ?_); (case side1 => exact Kd.C_below HR1_1.out (uH HB.out)); (case side2 => exact HC1_1.out); rintro e w56 ⟨v345, rfl, ho0, hb⟩; refine ⟨_, rfl, ?_⟩; have n0_ := zA (Kd.R_elder' (uR ((Kd.R_mono (Kd.R_far (p := ⟨gb342, 1, none⟩) (Kd.R_far (p := ⟨gb342, 0, none⟩) (Kd.R_types HO327.out BK342.out (by decide)) (fun _ hk => hk.2) (.int .i64 t338)) (fun _ hk => hk.2) (.slice Ao53 t339.length co53)) (fun _ h_ => h_.1)))) (Kd.R_base ho0) hb); have n1_ := zA (Kd.R_elder' (uR ((Kd.R_mono (Kd.R_far (p := ⟨gb342, 1, none⟩) (Kd.R_far (p := ⟨gb342, 0, none⟩) (Kd.R_types HO331.out BK342.out (by decide)) (fun _ hk => hk.2) (.int .i64 t338)) (fun _ hk => hk.2) (.slice Ao53 t339.length co53)) (fun _ h_ => h_.1)))) (Kd.R_base ho0) hb); have n2_ := zA (Kd.R_elder' (uR ((Kd.R_mono (Kd.R_far (p := ⟨gb342, 1, none⟩) (Kd.R_far (p := ⟨gb342, 0, none⟩) (Kd.R_types HO335.out BK342.out (by decide)) (fun _ hk => hk.2) (.int .i64 t338)) (fun _ hk => hk.2) (.slice Ao53 t339.length co53)) (fun _ h_ => h_.1)))) (Kd.R_base ho0) hb); have n3_ := zA (Kd.R_elder' (uR ((Kd.R_mono (Kd.R_far (p := ⟨gb342, 1, none⟩) (Kd.R_far (p := ⟨gb342, 0, none⟩) (Kd.R_types HO341.out BK342.out (by decide)) (fun _ hk => hk.2) (.int .i64 t338)) (fun _ hk => hk.2) (.slice Ao53 t339.length co53)) (fun _ h_ => h_.1)))) (Kd.R_base ho0) hb); have n4_ := zA (Kd.R_lower (Kd.R_new' (Kd.R_new' (Kd.R_new' (Kd.R_new' ho0 (Kd.R_lt (uR ((Kd.R_mono (Kd.R_far (p := ⟨gb342, 1, none⟩) (Kd.R_far (p := ⟨gb342, 0, none⟩) (Kd.R_types HO327.out BK342.out (by decide)) (fun _ hk => hk.2) (.int .i64 t338)) (fun _ hk => hk.2) (.slice Ao53 t339.length co53)) (fun _ h_ => h_.1)))))) (Kd.R_lt (uR ((Kd.R_mono (Kd.R_far (p := ⟨gb342, 1, none⟩) (Kd.R_far (p := ⟨gb342, 0, none⟩) (Kd.R_types HO331.out BK342.out (by decide)) (fun _ hk => hk.2) (.int .i64 t338)) (fun _ hk => hk.2) (.slice Ao53 t339.length co53)) (fun _ h_ => h_.1)))))) (Kd.R_lt (uR ((Kd.R_mono (Kd.R_far (p := ⟨gb342, 1, none⟩) (Kd.R_far (p := ⟨gb342, 0, none⟩) (Kd.R_types HO335.out BK342.out (by decide)) (fun _ hk => hk.2) (.int .i64 t338)) (fun _ hk => hk.2) (.slice Ao53 t339.length co53)) (fun _ h_ => h_.1)))))) (Kd.R_lt (uR ((Kd.R_mono (Kd.R_far (p := ⟨gb342, 1, none⟩) (Kd.R_far (p := ⟨gb342, 0, none⟩) (Kd.R_types HO341.out BK342.out (by decide)) (fun _ hk => hk.2) (.int .i64 t338)) (fun _ hk => hk.2) (.slice Ao53 t339.length co53)) (fun _ h_ => h_.1)))))) (below_size (uH HB.out))); have n5_ := zA (blk_below (g := gb320) (o := .cells #[.int .i64 a0_0, .slice A0_1 l0_1.length c0_1] 32 (0, 0)) (by (with_reducible repeat (first | refine blk_drewN ?_ _ | refine blk_drew ?_ | refine blk_alloc ?_ _)); refine blk_far ?_ NB320_342.out _; (with_reducible repeat (first | refine blk_drewN ?_ _ | refine blk_drew ?_ | refine blk_alloc ?_ _)); refine blk_far ?_ NB320_342.out _; (with_reducible repeat (first | refine blk_drewN ?_ _ | refine blk_drew ?_ | refine blk_alloc ?_ _)); exact BK320.out) hb); have n6_ := zA (blk_below (g := gb321) (o := .cells #[.int .i64 a1_0, .slice A1_1 l1_1.length c1_1] 32 (0, 0)) (by (with_reducible repeat (first | refine blk_drewN ?_ _ | refine blk_drew ?_ | refine blk_alloc ?_ _)); refine blk_far ?_ NB321_342.out _; (with_reducible repeat (first | refine blk_drewN ?_ _ | refine blk_drew ?_ | refine blk_alloc ?_ _)); refine blk_far ?_ NB321_342.out _; (with_reducible repeat (first | refine blk_drewN ?_ _ | refine blk_drew ?_ | refine blk_alloc ?_ _)); exact BK321.out) hb); have n7_ := zA (blk_below (g := gb337) (o := .cells #[.int .i64 t332, .slice Ao43 t333.length co43] 36 (0, 0)) (by (with_reducible repeat (first | refine blk_drewN ?_ _ | refine blk_drew ?_ | refine blk_alloc ?_ _)); refine blk_far ?_ NB337_342.out _; (with_reducible repeat (first | refine blk_drewN ?_ _ | refine blk_drew ?_ | refine blk_alloc ?_ _)); refine blk_far ?_ NB337_342.out _; (with_reducible repeat (first | refine blk_drewN ?_ _ | refine blk_drew ?_ | refine blk_alloc ?_ _)); exact BK337.out) hb); have n8_ := zA (blk_below (g := gb342) (o := .cells #[.int .i64 t338, .slice Ao53 t339.length co53] 36 (0, 0)) (by (with_reducible repeat (first | refine blk_drewN ?_ _ | refine blk_drew ?_ | refine blk_alloc ?_ _)); refine blk_put (cs := #[.int .i64 t338, .slice none 0 0]) ?_ 1 _ rfl; (with_reducible repeat (first | refine blk_drewN ?_ _ | refine blk_drew ?_ | refine blk_alloc ?_ _)); refine blk_put (cs := #[.int .i64 0, .slice none 0 0]) ?_ 0 _ rfl; (with_reducible repeat (first | refine blk_drewN ?_ _ | refine blk_drew ?_ | refine blk_alloc ?_ _)); exact BK342.out) hb); have n9_ := xH HB hb; clear HO327 HO331 HO335 HO341 BK320 BK321 BK337 BK342 HB; have HO327 := n0_; have HO331 := n1_; have HO335 := n2_; have HO341 := n3_; have HO346 := n4_; have BK320 := n5_; have BK321 := n6_; have BK337 := n7_; have BK342 := n8_; have HB := n9_; clear n0_ n1_ n2_ n3_ n4_ n5_ n6_ n7_ n8_ n9_; (try clear hb); (try clear hb2); (try clear hk); (try clear hi); (try clear ho0)) | ((with_reducible refine gate_dst (N := 11) rfl ?_); refine box_event ?hg (N := 11) ?hd (cs := #[.int .i64 0, .slice none 0 0]) (t := 36) ?hr ?_; (case hd => rfl); (case hg => rfl); (case hr => first | (go_simp; done) | (go_simp; rfl)); intro gb347 hg w57 hbox hb; have n0_ := xR HO327 hb; have n1_ := xR HO331 hb; have n2_ := xR HO335 hb; have n3_ := xR HO341 hb; have n4_ := xR HO346 hb; have n5_ := xB BK320 hb; have n6_ := xB BK321 hb; have n7_ := xB BK337 hb; have n8_ := xB BK342 hb; have n9_ := xH HB hb; have n10_ := zA (hbox); have n11_ := zA ((by rw [hg]; exact (below_size (uH HB.out)) : w.heap.size ≤ gb347)); have n12_ := zA ((by rw [hg]; exact (below_size (uH HB.out)) : w.heap.size ≤ gb347)); have n13_ := zA ((by rw [hg]; exact neL BK320 : gb320 ≠ gb347)); have n14_ := zA ((by rw [hg]; exact neG BK320 : gb347 ≠ gb320)); have n15_ := zA ((by rw [hg]; exact neL BK321 : gb321 ≠ gb347)); have n16_ := zA ((by rw [hg]; exact neG BK321 : gb347 ≠ gb321)); have n17_ := zA ((by rw [hg]; exact neL BK337 : gb337 ≠ gb347)); have n18_ := zA ((by rw [hg]; exact neG BK337 : gb347 ≠ gb337)); have n19_ := zA ((by rw [hg]; exact neL BK342 : gb342 ≠ gb347)); have n20_ := zA ((by rw [hg]; exact neG BK342 : gb347 ≠ gb342)); clear HO327 HO331 HO335 HO341 HO346 BK320 BK321 BK337 BK342 HB; have HO327 := n0_; have HO331 := n1_; have HO335 := n2_; have HO341 := n3_; have HO346 := n4_; have BK320 := n5_; have BK321 := n6_; have BK337 := n7_; have BK342 := n8_; have HB := n9_; have BK347 := n10_; have GW347 := n11_; have GE347 := n12_; have := geI GE347; have NB320_347 := n13_; have NB347_320 := n14_; have NB321_347 := n15_; have NB347_321 := n16_; have NB337_347 := n17_; have NB347_337 := n18_; have NB342_347 := n19_; have NB347_342 := n20_; clear n0_ n1_ n2_ n3_ n4_ n5_ n6_ n7_ n8_ n9_ n10_ n11_ n12_ n13_ n14_ n15_ n16_ n17_ n18_ n19_ n20_ hb hbox hg; have hnb58 := NB347_320.out; have hnc58 := NB320_347.out; have hnb59 := NB347_321.out; have hnc59 := NB321_347.out; have hnb60 := NB347_337.out; have hnc60 := NB337_347.out; have hnb61 := NB347_342.out; have hnc61 := NB342_347.out; have hcz62_0 : w57.cell? ⟨gb347, 0, none⟩ = some (.int .i64 0) := (blk_cell BK347.out 0).trans rfl; have hcz62_1 : w57.cell? ⟨gb347, 1, none⟩ = some (.slice none 0 0) := (blk_cell BK347.out 1).trans rfl; have hfz62_0 := blk_frozen BK347.out 0; have hfz62_1 := blk_frozen BK347.out 1; obtain ⟨Ao63, co63, eo63⟩ := Kd.R_slice HO346.out; subst eo63; have hcz64_0 : w57.cell? ⟨gb342, 0, none⟩ = some (.int .i64 t338) := (blk_cell BK342.out 0).trans rfl; have hcz64_1 : w57.cell? ⟨gb342, 1, none⟩ = some (.slice Ao53 t339.length co53) := (blk_cell BK342.out 1).trans rfl; have hfz64_0 := blk_frozen BK342.out 0; have hfz64_1 := blk_frozen BK342.out 1) | ((with_reducible refine gate_callee (f := 22) rfl ?_); refine goesL_ (some 46) rfl rfl Try.func22 (by kernel_rfl) rfl #[.agg #[.int .i64 t338, .slice Ao53 t339.length co53], .agg #[.int .i64 t343, .slice Ao63 t344.length co63], .int .i64 a2] rfl (by (try simp only [List.map_toArray, List.map_cons, List.map_nil]); first | done | rfl | (simp only [List.length_drop, List.length_take]; rfl)) ?_; (with_reducible refine (impl_AddMoments.calls k t338 _ _ t339 t343 _ _ t344 a2 t348 t349 t352 _ ?side1 ?side2 ?side3 ?side4 A25.out).mono ?_); (case side1 => refine (Kd.R_reads' (e := 2) (base := w.heap.size) (ok := fun k_ => ((((True ∧ some k_ ≠ (v326 : Value).ownBlock) ∧ some k_ ≠ (v330 : Value).ownBlock) ∧ some k_ ≠ (.slice Ao43 t333.length co43 : Value).ownBlock) ∧ some k_ ≠ (.slice Ao63 t344.length co63 : Value).ownBlock)) (n := t339.length) (c := co53) ?_).2.2; exact (uR ((Kd.R_mono (Kd.R_far (p := ⟨gb347, 1, none⟩) (Kd.R_far (p := ⟨gb347, 0, none⟩) (Kd.R_types HO341.out BK347.out (by decide)) (fun _ hk => hk.2) (.int .i64 t343)) (fun _ hk => hk.2) (.slice Ao63 t344.length co63)) (fun _ h_ => h_.1))))); (case side2 => exact (Kd.R_reads' HO341.out).2.1); (case side3 => refine (Kd.R_reads' (e := 2) (base := w.heap.size) (ok := fun k_ => ((((True ∧ some k_ ≠ (v326 : Value).ownBlock) ∧ some k_ ≠ (v330 : Value).ownBlock) ∧ some k_ ≠ (.slice Ao43 t333.length co43 : Value).ownBlock) ∧ some k_ ≠ (.slice Ao53 t339.length co53 : Value).ownBlock)) (n := t344.length) (c := co63) ?_).2.2; exact (uR ((Kd.R_mono (Kd.R_far (p := ⟨gb347, 1, none⟩) (Kd.R_far (p := ⟨gb347, 0, none⟩) (Kd.R_types HO346.out BK347.out (by decide)) (fun _ hk => hk.2) (.int .i64 t343)) (fun _ hk => hk.2) (.slice Ao63 t344.length co63)) (fun _ h_ => h_.1))))); (case side4 => exact (Kd.R_reads' HO346.out).2.1); rintro e w65 ⟨v350, rfl, ho0, hb⟩; refine ⟨_, rfl, ?_⟩; have n0_ := zA (Kd.R_elder' (uR ((Kd.R_mono (Kd.R_far (p := ⟨gb347, 1, none⟩) (Kd.R_far (p := ⟨gb347, 0, none⟩) (Kd.R_types HO327.out BK347.out (by decide)) (fun _ hk => hk.2) (.int .i64 t343)) (fun _ hk => hk.2) (.slice Ao63 t344.length co63)) (fun _ h_ => h_.1)))) (Kd.R_base ho0) hb); have n1_ := zA (Kd.R_elder' (uR ((Kd.R_mono (Kd.R_far (p := ⟨gb347, 1, none⟩) (Kd.R_far (p := ⟨gb347, 0, none⟩) (Kd.R_types HO331.out BK347.out (by decide)) (fun _ hk => hk.2) (.int .i64 t343)) (fun _ hk => hk.2) (.slice Ao63 t344.length co63)) (fun _ h_ => h_.1)))) (Kd.R_base ho0) hb); have n2_ := zA (Kd.R_elder' (uR ((Kd.R_mono (Kd.R_far (p := ⟨gb347, 1, none⟩) (Kd.R_far (p := ⟨gb347, 0, none⟩) (Kd.R_types HO335.out BK347.out (by decide)) (fun _ hk => hk.2) (.int .i64 t343)) (fun _ hk => hk.2) (.slice Ao63 t344.length co63)) (fun _ h_ => h_.1)))) (Kd.R_base ho0) hb); have n3_ := zA (Kd.R_elder' (uR ((Kd.R_mono (Kd.R_far (p := ⟨gb347, 1, none⟩) (Kd.R_far (p := ⟨gb347, 0, none⟩) (Kd.R_types HO341.out BK347.out (by decide)) (fun _ hk => hk.2) (.int .i64 t343)) (fun _ hk => hk.2) (.slice Ao63 t344.length co63)) (fun _ h_ => h_.1)))) (Kd.R_base ho0) hb); have n4_ := zA (Kd.R_elder' (uR ((Kd.R_mono (Kd.R_far (p := ⟨gb347, 1, none⟩) (Kd.R_far (p := ⟨gb347, 0, none⟩) (Kd.R_types HO346.out BK347.out (by decide)) (fun _ hk => hk.2) (.int .i64 t343)) (fun _ hk => hk.2) (.slice Ao63 t344.length co63)) (fun _ h_ => h_.1)))) (Kd.R_base ho0) hb); have n5_ := zA (Kd.R_lower (Kd.R_new' (Kd.R_new' (Kd.R_new' (Kd.R_new' (Kd.R_new' ho0 (Kd.R_lt (uR ((Kd.R_mono (Kd.R_far (p := ⟨gb347, 1, none⟩) (Kd.R_far (p := ⟨gb347, 0, none⟩) (Kd.R_types HO327.out BK347.out (by decide)) (fun _ hk => hk.2) (.int .i64 t343)) (fun _ hk => hk.2) (.slice Ao63 t344.length co63)) (fun _ h_ => h_.1)))))) (Kd.R_lt (uR ((Kd.R_mono (Kd.R_far (p := ⟨gb347, 1, none⟩) (Kd.R_far (p := ⟨gb347, 0, none⟩) (Kd.R_types HO331.out BK347.out (by decide)) (fun _ hk => hk.2) (.int .i64 t343)) (fun _ hk => hk.2) (.slice Ao63 t344.length co63)) (fun _ h_ => h_.1)))))) (Kd.R_lt (uR ((Kd.R_mono (Kd.R_far (p := ⟨gb347, 1, none⟩) (Kd.R_far (p := ⟨gb347, 0, none⟩) (Kd.R_types HO335.out BK347.out (by decide)) (fun _ hk => hk.2) (.int .i64 t343)) (fun _ hk => hk.2) (.slice Ao63 t344.length co63)) (fun _ h_ => h_.1)))))) (Kd.R_lt (uR ((Kd.R_mono (Kd.R_far (p := ⟨gb347, 1, none⟩) (Kd.R_far (p := ⟨gb347, 0, none⟩) (Kd.R_types HO341.out BK347.out (by decide)) (fun _ hk => hk.2) (.int .i64 t343)) (fun _ hk => hk.2) (.slice Ao63 t344.length co63)) (fun _ h_ => h_.1)))))) (Kd.R_lt (uR ((Kd.R_mono (Kd.R_far (p := ⟨gb347, 1, none⟩) (Kd.R_far (p := ⟨gb347, 0, none⟩) (Kd.R_types HO346.out BK347.out (by decide)) (fun _ hk => hk.2) (.int .i64 t343)) (fun _ hk => hk.2) (.slice Ao63 t344.length co63)) (fun _ h_ => h_.1)))))) (below_size (uH HB.out))); have n6_ := zA (blk_below (g := gb320) (o := .cells #[.int .i64 a0_0, .slice A0_1 l0_1.length c0_1] 32 (0, 0)) (by (with_reducible repeat (first | refine blk_drewN ?_ _ | refine blk_drew ?_ | refine blk_alloc ?_ _)); refine blk_far ?_ NB320_347.out _; (with_reducible repeat (first | refine blk_drewN ?_ _ | refine blk_drew ?_ | refine blk_alloc ?_ _)); refine blk_far ?_ NB320_347.out _; (with_reducible repeat (first | refine blk_drewN ?_ _ | refine blk_drew ?_ | refine blk_alloc ?_ _)); exact BK320.out) hb); have n7_ := zA (blk_below (g := gb321) (o := .cells #[.int .i64 a1_0, .slice A1_1 l1_1.length c1_1] 32 (0, 0)) (by (with_reducible repeat (first | refine blk_drewN ?_ _ | refine blk_drew ?_ | refine blk_alloc ?_ _)); refine blk_far ?_ NB321_347.out _; (with_reducible repeat (first | refine blk_drewN ?_ _ | refine blk_drew ?_ | refine blk_alloc ?_ _)); refine blk_far ?_ NB321_347.out _; (with_reducible repeat (first | refine blk_drewN ?_ _ | refine blk_drew ?_ | refine blk_alloc ?_ _)); exact BK321.out) hb); have n8_ := zA (blk_below (g := gb337) (o := .cells #[.int .i64 t332, .slice Ao43 t333.length co43] 36 (0, 0)) (by (with_reducible repeat (first | refine blk_drewN ?_ _ | refine blk_drew ?_ | refine blk_alloc ?_ _)); refine blk_far ?_ NB337_347.out _; (with_reducible repeat (first | refine blk_drewN ?_ _ | refine blk_drew ?_ | refine blk_alloc ?_ _)); refine blk_far ?_ NB337_347.out _; (with_reducible repeat (first | refine blk_drewN ?_ _ | refine blk_drew ?_ | refine blk_alloc ?_ _)); exact BK337.out) hb); have n9_ := zA (blk_below (g := gb342) (o := .cells #[.int .i64 t338, .slice Ao53 t339.length co53] 36 (0, 0)) (by (with_reducible repeat (first | refine blk_drewN ?_ _ | refine blk_drew ?_ | refine blk_alloc ?_ _)); refine blk_far ?_ NB342_347.out _; (with_reducible repeat (first | refine blk_drewN ?_ _ | refine blk_drew ?_ | refine blk_alloc ?_ _)); refine blk_far ?_ NB342_347.out _; (with_reducible repeat (first | refine blk_drewN ?_ _ | refine blk_drew ?_ | refine blk_alloc ?_ _)); exact BK342.out) hb); have n10_ := zA (blk_below (g := gb347) (o := .cells #[.int .i64 t343, .slice Ao63 t344.length co63] 36 (0, 0)) (by (with_reducible repeat (first | refine blk_drewN ?_ _ | refine blk_drew ?_ | refine blk_alloc ?_ _)); refine blk_put (cs := #[.int .i64 t343, .slice none 0 0]) ?_ 1 _ rfl; (with_reducible repeat (first | refine blk_drewN ?_ _ | refine blk_drew ?_ | refine blk_alloc ?_ _)); refine blk_put (cs := #[.int .i64 0, .slice none 0 0]) ?_ 0 _ rfl; (with_reducible repeat (first | refine blk_drewN ?_ _ | refine blk_drew ?_ | refine blk_alloc ?_ _)); exact BK347.out) hb); have n11_ := xH HB hb; clear HO327 HO331 HO335 HO341 HO346 BK320 BK321 BK337 BK342 BK347 HB; have HO327 := n0_; have HO331 := n1_; have HO335 := n2_; have HO341 := n3_; have HO346 := n4_; have HO351 := n5_; have BK320 := n6_; have BK321 := n7_; have BK337 := n8_; have BK342 := n9_; have BK347 := n10_; have HB := n11_; clear n0_ n1_ n2_ n3_ n4_ n5_ n6_ n7_ n8_ n9_ n10_ n11_; (try clear hb); (try clear hb2); (try clear hk); (try clear hi); (try clear ho0)) | ((with_reducible refine gate_dst (N := 12) rfl ?_); refine box_event ?hg (N := 12) ?hd (cs := #[.int .i64 0, .slice none 0 0]) (t := 36) ?hr ?_; (case hd => rfl); (case hg => rfl); (case hr => first | (go_simp; done) | (go_simp; rfl)); intro gb353 hg w66 hbox hb; have n0_ := xR HO327 hb; have n1_ := xR HO331 hb; have n2_ := xR HO335 hb; have n3_ := xR HO341 hb; have n4_ := xR HO346 hb; have n5_ := xR HO351 hb; have n6_ := xB BK320 hb; have n7_ := xB BK321 hb; have n8_ := xB BK337 hb; have n9_ := xB BK342 hb; have n10_ := xB BK347 hb; have n11_ := xH HB hb; have n12_ := zA (hbox); have n13_ := zA ((by rw [hg]; exact (below_size (uH HB.out)) : w.heap.size ≤ gb353)); have n14_ := zA ((by rw [hg]; exact (below_size (uH HB.out)) : w.heap.size ≤ gb353)); have n15_ := zA ((by rw [hg]; exact neL BK320 : gb320 ≠ gb353)); have n16_ := zA ((by rw [hg]; exact neG BK320 : gb353 ≠ gb320)); have n17_ := zA ((by rw [hg]; exact neL BK321 : gb321 ≠ gb353)); have n18_ := zA ((by rw [hg]; exact neG BK321 : gb353 ≠ gb321)); have n19_ := zA ((by rw [hg]; exact neL BK337 : gb337 ≠ gb353)); have n20_ := zA ((by rw [hg]; exact neG BK337 : gb353 ≠ gb337)); have n21_ := zA ((by rw [hg]; exact neL BK342 : gb342 ≠ gb353)); have n22_ := zA ((by rw [hg]; exact neG BK342 : gb353 ≠ gb342)); have n23_ := zA ((by rw [hg]; exact neL BK347 : gb347 ≠ gb353)); have n24_ := zA ((by rw [hg]; exact neG BK347 : gb353 ≠ gb347)); clear HO327 HO331 HO335 HO341 HO346 HO351 BK320 BK321 BK337 BK342 BK347 HB; have HO327 := n0_; have HO331 := n1_; have HO335 := n2_; have HO341 := n3_; have HO346 := n4_; have HO351 := n5_; have BK320 := n6_; have BK321 := n7_; have BK337 := n8_; have BK342 := n9_; have BK347 := n10_; have HB := n11_; have BK353 := n12_; have GW353 := n13_; have GE353 := n14_; have := geI GE353; have NB320_353 := n15_; have NB353_320 := n16_; have NB321_353 := n17_; have NB353_321 := n18_; have NB337_353 := n19_; have NB353_337 := n20_; have NB342_353 := n21_; have NB353_342 := n22_; have NB347_353 := n23_; have NB353_347 := n24_; clear n0_ n1_ n2_ n3_ n4_ n5_ n6_ n7_ n8_ n9_ n10_ n11_ n12_ n13_ n14_ n15_ n16_ n17_ n18_ n19_ n20_ n21_ n22_ n23_ n24_ hb hbox hg; have hnb67 := NB353_320.out; have hnc67 := NB320_353.out; have hnb68 := NB353_321.out; have hnc68 := NB321_353.out; have hnb69 := NB353_337.out; have hnc69 := NB337_353.out; have hnb70 := NB353_342.out; have hnc70 := NB342_353.out; have hnb71 := NB353_347.out; have hnc71 := NB347_353.out; have hcz72_0 : w66.cell? ⟨gb353, 0, none⟩ = some (.int .i64 0) := (blk_cell BK353.out 0).trans rfl; have hcz72_1 : w66.cell? ⟨gb353, 1, none⟩ = some (.slice none 0 0) := (blk_cell BK353.out 1).trans rfl; have hfz72_0 := blk_frozen BK353.out 0; have hfz72_1 := blk_frozen BK353.out 1; obtain ⟨Ao73, co73, eo73⟩ := Kd.R_slice HO351.out; subst eo73))
   (try simp only [Act.put, List.setIfInBounds_toArray, List.set_cons_zero, List.set_cons_succ])
   go_cut [57] (fun v57 wc => ∃ (kq : Nat) (x57_25 : Bool), v57 = .bool x57_25 ∧ Aside0 (laws_FnExactAddMoments.j0 kq a2 t336 t352 x57_25 a0_0 l0_1 a1_0 l1_1 t332 t333 t338 t339 t343 t344 t348 t349 = some r) ∧ Aside0 (kq ≤ k) ∧ Aside0 (Kd.R (Kd.int .i64) 2 wc w.heap.size (fun k_ => some k_ ≠ ((.slice Ao53 t339.length co53) : Value).ownBlock ∧ some k_ ≠ ((.slice Ao63 t344.length co63) : Value).ownBlock ∧ some k_ ≠ ((.slice Ao73 t349.length co73) : Value).ownBlock) (.slice Ao43 t333.length co43) t333) ∧ Aside0 (Kd.R (Kd.int .i64) 2 wc w.heap.size (fun k_ => some k_ ≠ ((.slice Ao43 t333.length co43) : Value).ownBlock ∧ some k_ ≠ ((.slice Ao63 t344.length co63) : Value).ownBlock ∧ some k_ ≠ ((.slice Ao73 t349.length co73) : Value).ownBlock) (.slice Ao53 t339.length co53) t339) ∧ Aside0 (Kd.R (Kd.int .i64) 2 wc w.heap.size (fun k_ => some k_ ≠ ((.slice Ao43 t333.length co43) : Value).ownBlock ∧ some k_ ≠ ((.slice Ao53 t339.length co53) : Value).ownBlock ∧ some k_ ≠ ((.slice Ao73 t349.length co73) : Value).ownBlock) (.slice Ao63 t344.length co63) t344) ∧ Aside0 (Kd.R (Kd.int .i64) 2 wc w.heap.size (fun k_ => some k_ ≠ ((.slice Ao43 t333.length co43) : Value).ownBlock ∧ some k_ ≠ ((.slice Ao53 t339.length co53) : Value).ownBlock ∧ some k_ ≠ ((.slice Ao63 t344.length co63) : Value).ownBlock) (.slice Ao73 t349.length co73) t349) ∧ Aside0 (wc.heap[gb320]? = some (.cells #[.int .i64 a0_0, (.slice A0_1 l0_1.length c0_1)] 32 (0, 0))) ∧ Aside0 (wc.heap[gb321]? = some (.cells #[.int .i64 a1_0, (.slice A1_1 l1_1.length c1_1)] 32 (0, 0))) ∧ Aside0 (wc.heap[gb337]? = some (.cells #[.int .i64 t332, (.slice Ao43 t333.length co43)] 36 (0, 0))) ∧ Aside0 (wc.heap[gb342]? = some (.cells #[.int .i64 t338, (.slice Ao53 t339.length co53)] 36 (0, 0))) ∧ Aside0 (wc.heap[gb347]? = some (.cells #[.int .i64 t343, (.slice Ao63 t344.length co63)] 36 (0, 0))) ∧ Aside0 (wc.heap[gb353]? = some (.cells #[.int .i64 t348, (.slice Ao73 t349.length co73)] 36 (0, 0))) ∧ Aside0 (Below w.heap.size w wc))
   case first =>
    have H := HC26.out
    clear HC26
    replace H := Option.bind_eq_some_iff.mp H
    obtain ⟨t354, A740, H⟩ := H
    replace H : (if t354 = true then (laws_FnExactAddMoments.j0 k a2 t336 t352 (t352 != t336) a0_0 l0_1 a1_0 l1_1 t332 t333 t338 t339 t343 t344 t348 t349) else (laws_FnExactAddMoments.j0 k a2 t336 t352 true a0_0 l0_1 a1_0 l1_1 t332 t333 t338 t339 t343 t344 t348 t349)) = some r := H
    have A74 := zA A740
    clear A740
    by_cases c75 : t354 = true
    ·subst c75
     have H1 : (laws_FnExactAddMoments.j0 k a2 t336 t352 (t352 != t336) a0_0 l0_1 a1_0 l1_1 t332 t333 t338 t339 t343 t344 t348 t349) = some r := by rw [if_pos rfl] at H; exact H
     clear H
     have H := H1
     clear H1
     have H' := zA H
     clear H
     have hnb76 := NB353_320.out; have hnc76 := NB320_353.out; have hnb77 := NB353_321.out; have hnc77 := NB321_353.out; have hnb78 := NB353_337.out; have hnc78 := NB337_353.out; have hnb79 := NB353_342.out; have hnc79 := NB342_353.out; have hnb80 := NB353_347.out; have hnc80 := NB347_353.out
     have hcz81_0 : w66.cell? ⟨gb353, 0, none⟩ = some (.int .i64 0) := (blk_cell BK353.out 0).trans rfl
     have hcz81_1 : w66.cell? ⟨gb353, 1, none⟩ = some (.slice none 0 0) := (blk_cell BK353.out 1).trans rfl
     have hfz81_0 := blk_frozen BK353.out 0
     have hfz81_1 := blk_frozen BK353.out 1
     have hnb82 := NB337_320.out; have hnc82 := NB320_337.out; have hnb83 := NB337_321.out; have hnc83 := NB321_337.out; have hnb84 := NB337_342.out; have hnc84 := NB342_337.out; have hnb85 := NB337_347.out; have hnc85 := NB347_337.out
     have hcz86_0 : w66.cell? ⟨gb337, 0, none⟩ = some (.int .i64 t332) := (blk_cell BK337.out 0).trans rfl
     have hcz86_1 : w66.cell? ⟨gb337, 1, none⟩ = some (.slice Ao43 t333.length co43) := (blk_cell BK337.out 1).trans rfl
     have hfz86_0 := blk_frozen BK337.out 0
     have hfz86_1 := blk_frozen BK337.out 1
     go_wp2_with (first | ((with_reducible refine gate_callee (f := 19) rfl ?_); refine goesL_ (some 51) rfl rfl Try.func19 (by kernel_rfl) rfl #[.agg #[.int .i64 t348, .slice Ao73 t349.length co73], .agg #[.int .i64 t332, .slice Ao43 t333.length co43]] rfl (by (try simp only [List.map_toArray, List.map_cons, List.map_nil]); first | done | rfl | (simp only [List.length_drop, List.length_take]; rfl)) ?_; (with_reducible refine (laws_eqMoments.calls k t348 _ _ t349 t332 _ _ t333 true _ ?side1 ?side2 ?side3 ?side4 A74.out).mono ?_); (case side1 => refine (Kd.R_reads' (e := 2) (base := w.heap.size) (ok := fun k_ => (((((True ∧ some k_ ≠ (v326 : Value).ownBlock) ∧ some k_ ≠ (v330 : Value).ownBlock) ∧ some k_ ≠ (.slice Ao43 t333.length co43 : Value).ownBlock) ∧ some k_ ≠ (.slice Ao53 t339.length co53 : Value).ownBlock) ∧ some k_ ≠ (.slice Ao63 t344.length co63 : Value).ownBlock)) (n := t349.length) (c := co73) ?_).2.2; exact (uR ((Kd.R_mono (Kd.R_far (p := ⟨gb353, 1, none⟩) (Kd.R_far (p := ⟨gb353, 0, none⟩) (Kd.R_types HO351.out BK353.out (by decide)) (fun _ hk => hk.2) (.int .i64 t348)) (fun _ hk => hk.2) (.slice Ao73 t349.length co73)) (fun _ h_ => h_.1))))); (case side2 => exact (Kd.R_reads' HO351.out).2.1); (case side3 => refine (Kd.R_reads' (e := 2) (base := w.heap.size) (ok := fun k_ => ((((some k_ ≠ (v326 : Value).ownBlock ∧ some k_ ≠ (v330 : Value).ownBlock) ∧ some k_ ≠ (.slice Ao53 t339.length co53 : Value).ownBlock) ∧ some k_ ≠ (.slice Ao63 t344.length co63 : Value).ownBlock) ∧ some k_ ≠ (.slice Ao73 t349.length co73 : Value).ownBlock)) (n := t333.length) (c := co43) ?_).2.2; exact (uR ((Kd.R_mono (Kd.R_far (p := ⟨gb353, 1, none⟩) (Kd.R_far (p := ⟨gb353, 0, none⟩) (Kd.R_types HO335.out BK353.out (by decide)) (fun _ hk => hk.2) (.int .i64 t348)) (fun _ hk => hk.2) (.slice Ao73 t349.length co73)) (fun _ h_ => h_.1))))); (case side4 => exact (Kd.R_reads' HO335.out).2.1); rintro e w87 ⟨rfl, hb⟩; refine ⟨_, rfl, ?_⟩; have n0_ := zA (Kd.R_below (uR ((Kd.R_mono (Kd.R_far (p := ⟨gb353, 1, none⟩) (Kd.R_far (p := ⟨gb353, 0, none⟩) (Kd.R_types HO327.out BK353.out (by decide)) (fun _ hk => hk.2) (.int .i64 t348)) (fun _ hk => hk.2) (.slice Ao73 t349.length co73)) (fun _ h_ => h_.1)))) hb); have n1_ := zA (Kd.R_below (uR ((Kd.R_mono (Kd.R_far (p := ⟨gb353, 1, none⟩) (Kd.R_far (p := ⟨gb353, 0, none⟩) (Kd.R_types HO331.out BK353.out (by decide)) (fun _ hk => hk.2) (.int .i64 t348)) (fun _ hk => hk.2) (.slice Ao73 t349.length co73)) (fun _ h_ => h_.1)))) hb); have n2_ := zA (Kd.R_below (uR ((Kd.R_mono (Kd.R_far (p := ⟨gb353, 1, none⟩) (Kd.R_far (p := ⟨gb353, 0, none⟩) (Kd.R_types HO335.out BK353.out (by decide)) (fun _ hk => hk.2) (.int .i64 t348)) (fun _ hk => hk.2) (.slice Ao73 t349.length co73)) (fun _ h_ => h_.1)))) hb); have n3_ := zA (Kd.R_below (uR ((Kd.R_mono (Kd.R_far (p := ⟨gb353, 1, none⟩) (Kd.R_far (p := ⟨gb353, 0, none⟩) (Kd.R_types HO341.out BK353.out (by decide)) (fun _ hk => hk.2) (.int .i64 t348)) (fun _ hk => hk.2) (.slice Ao73 t349.length co73)) (fun _ h_ => h_.1)))) hb); have n4_ := zA (Kd.R_below (uR ((Kd.R_mono (Kd.R_far (p := ⟨gb353, 1, none⟩) (Kd.R_far (p := ⟨gb353, 0, none⟩) (Kd.R_types HO346.out BK353.out (by decide)) (fun _ hk => hk.2) (.int .i64 t348)) (fun _ hk => hk.2) (.slice Ao73 t349.length co73)) (fun _ h_ => h_.1)))) hb); have n5_ := zA (Kd.R_below (uR ((Kd.R_mono (Kd.R_far (p := ⟨gb353, 1, none⟩) (Kd.R_far (p := ⟨gb353, 0, none⟩) (Kd.R_types HO351.out BK353.out (by decide)) (fun _ hk => hk.2) (.int .i64 t348)) (fun _ hk => hk.2) (.slice Ao73 t349.length co73)) (fun _ h_ => h_.1)))) hb); have n6_ := zA (blk_below (g := gb320) (o := .cells #[.int .i64 a0_0, .slice A0_1 l0_1.length c0_1] 32 (0, 0)) (by (with_reducible repeat (first | refine blk_drewN ?_ _ | refine blk_drew ?_ | refine blk_alloc ?_ _)); refine blk_far ?_ NB320_353.out _; (with_reducible repeat (first | refine blk_drewN ?_ _ | refine blk_drew ?_ | refine blk_alloc ?_ _)); refine blk_far ?_ NB320_353.out _; (with_reducible repeat (first | refine blk_drewN ?_ _ | refine blk_drew ?_ | refine blk_alloc ?_ _)); exact BK320.out) hb); have n7_ := zA (blk_below (g := gb321) (o := .cells #[.int .i64 a1_0, .slice A1_1 l1_1.length c1_1] 32 (0, 0)) (by (with_reducible repeat (first | refine blk_drewN ?_ _ | refine blk_drew ?_ | refine blk_alloc ?_ _)); refine blk_far ?_ NB321_353.out _; (with_reducible repeat (first | refine blk_drewN ?_ _ | refine blk_drew ?_ | refine blk_alloc ?_ _)); refine blk_far ?_ NB321_353.out _; (with_reducible repeat (first | refine blk_drewN ?_ _ | refine blk_drew ?_ | refine blk_alloc ?_ _)); exact BK321.out) hb); have n8_ := zA (blk_below (g := gb337) (o := .cells #[.int .i64 t332, .slice Ao43 t333.length co43] 36 (0, 0)) (by (with_reducible repeat (first | refine blk_drewN ?_ _ | refine blk_drew ?_ | refine blk_alloc ?_ _)); refine blk_far ?_ NB337_353.out _; (with_reducible repeat (first | refine blk_drewN ?_ _ | refine blk_drew ?_ | refine blk_alloc ?_ _)); refine blk_far ?_ NB337_353.out _; (with_reducible repeat (first | refine blk_drewN ?_ _ | refine blk_drew ?_ | refine blk_alloc ?_ _)); exact BK337.out) hb); have n9_ := zA (blk_below (g := gb342) (o := .cells #[.int .i64 t338, .slice Ao53 t339.length co53] 36 (0, 0)) (by (with_reducible repeat (first | refine blk_drewN ?_ _ | refine blk_drew ?_ | refine blk_alloc ?_ _)); refine blk_far ?_ NB342_353.out _; (with_reducible repeat (first | refine blk_drewN ?_ _ | refine blk_drew ?_ | refine blk_alloc ?_ _)); refine blk_far ?_ NB342_353.out _; (with_reducible repeat (first | refine blk_drewN ?_ _ | refine blk_drew ?_ | refine blk_alloc ?_ _)); exact BK342.out) hb); have n10_ := zA (blk_below (g := gb347) (o := .cells #[.int .i64 t343, .slice Ao63 t344.length co63] 36 (0, 0)) (by (with_reducible repeat (first | refine blk_drewN ?_ _ | refine blk_drew ?_ | refine blk_alloc ?_ _)); refine blk_far ?_ NB347_353.out _; (with_reducible repeat (first | refine blk_drewN ?_ _ | refine blk_drew ?_ | refine blk_alloc ?_ _)); refine blk_far ?_ NB347_353.out _; (with_reducible repeat (first | refine blk_drewN ?_ _ | refine blk_drew ?_ | refine blk_alloc ?_ _)); exact BK347.out) hb); have n11_ := zA (blk_below (g := gb353) (o := .cells #[.int .i64 t348, .slice Ao73 t349.length co73] 36 (0, 0)) (by (with_reducible repeat (first | refine blk_drewN ?_ _ | refine blk_drew ?_ | refine blk_alloc ?_ _)); refine blk_put (cs := #[.int .i64 t348, .slice none 0 0]) ?_ 1 _ rfl; (with_reducible repeat (first | refine blk_drewN ?_ _ | refine blk_drew ?_ | refine blk_alloc ?_ _)); refine blk_put (cs := #[.int .i64 0, .slice none 0 0]) ?_ 0 _ rfl; (with_reducible repeat (first | refine blk_drewN ?_ _ | refine blk_drew ?_ | refine blk_alloc ?_ _)); exact BK353.out) hb); have n12_ := xH HB hb; clear HO327 HO331 HO335 HO341 HO346 HO351 BK320 BK321 BK337 BK342 BK347 BK353 HB; have HO327 := n0_; have HO331 := n1_; have HO335 := n2_; have HO341 := n3_; have HO346 := n4_; have HO351 := n5_; have BK320 := n6_; have BK321 := n7_; have BK337 := n8_; have BK342 := n9_; have BK347 := n10_; have BK353 := n11_; have HB := n12_; clear n0_ n1_ n2_ n3_ n4_ n5_ n6_ n7_ n8_ n9_ n10_ n11_ n12_; (try clear hb); (try clear hb2); (try clear hk); (try clear hi)))
     go_meet
     case rel => exact ⟨_, ((t352 != t336)), (by first | rfl | (simp; done) | (simp [*]; done)), H', ⟨by first | omega | exact Nat.le_refl _⟩, ⟨uR (Kd.R_mono HO335.out (fun _ hk => ⟨hk.1.1.2, ⟨hk.1.2, hk.2⟩⟩))⟩, ⟨uR (Kd.R_mono HO341.out (fun _ hk => ⟨hk.1.1.2, ⟨hk.1.2, hk.2⟩⟩))⟩, ⟨uR (Kd.R_mono HO346.out (fun _ hk => ⟨hk.1.1.2, ⟨hk.1.2, hk.2⟩⟩))⟩, ⟨uR (Kd.R_mono HO351.out (fun _ hk => ⟨hk.1.1.2, ⟨hk.1.2, hk.2⟩⟩))⟩, ⟨uB BK320.out⟩, ⟨uB BK321.out⟩, ⟨uB BK337.out⟩, ⟨uB BK342.out⟩, ⟨uB BK347.out⟩, ⟨uB BK353.out⟩, ⟨uH HB.out⟩⟩
    ·replace c75 := Bool.eq_false_iff.mpr c75
     subst c75
     have H1 : (laws_FnExactAddMoments.j0 k a2 t336 t352 true a0_0 l0_1 a1_0 l1_1 t332 t333 t338 t339 t343 t344 t348 t349) = some r := by rw [if_neg (show ¬ (false = true) by decide)] at H; exact H
     clear H
     have H := H1
     clear H1
     have H' := zA H
     clear H
     have hnb88 := NB353_320.out; have hnc88 := NB320_353.out; have hnb89 := NB353_321.out; have hnc89 := NB321_353.out; have hnb90 := NB353_337.out; have hnc90 := NB337_353.out; have hnb91 := NB353_342.out; have hnc91 := NB342_353.out; have hnb92 := NB353_347.out; have hnc92 := NB347_353.out
     have hcz93_0 : w66.cell? ⟨gb353, 0, none⟩ = some (.int .i64 0) := (blk_cell BK353.out 0).trans rfl
     have hcz93_1 : w66.cell? ⟨gb353, 1, none⟩ = some (.slice none 0 0) := (blk_cell BK353.out 1).trans rfl
     have hfz93_0 := blk_frozen BK353.out 0
     have hfz93_1 := blk_frozen BK353.out 1
     have hnb94 := NB337_320.out; have hnc94 := NB320_337.out; have hnb95 := NB337_321.out; have hnc95 := NB321_337.out; have hnb96 := NB337_342.out; have hnc96 := NB342_337.out; have hnb97 := NB337_347.out; have hnc97 := NB347_337.out
     have hcz98_0 : w66.cell? ⟨gb337, 0, none⟩ = some (.int .i64 t332) := (blk_cell BK337.out 0).trans rfl
     have hcz98_1 : w66.cell? ⟨gb337, 1, none⟩ = some (.slice Ao43 t333.length co43) := (blk_cell BK337.out 1).trans rfl
     have hfz98_0 := blk_frozen BK337.out 0
     have hfz98_1 := blk_frozen BK337.out 1
     go_wp2_with (first | ((with_reducible refine gate_callee (f := 19) rfl ?_); refine goesL_ (some 51) rfl rfl Try.func19 (by kernel_rfl) rfl #[.agg #[.int .i64 t348, .slice Ao73 t349.length co73], .agg #[.int .i64 t332, .slice Ao43 t333.length co43]] rfl (by (try simp only [List.map_toArray, List.map_cons, List.map_nil]); first | done | rfl | (simp only [List.length_drop, List.length_take]; rfl)) ?_; (with_reducible refine (laws_eqMoments.calls k t348 _ _ t349 t332 _ _ t333 false _ ?side1 ?side2 ?side3 ?side4 A74.out).mono ?_); (case side1 => refine (Kd.R_reads' (e := 2) (base := w.heap.size) (ok := fun k_ => (((((True ∧ some k_ ≠ (v326 : Value).ownBlock) ∧ some k_ ≠ (v330 : Value).ownBlock) ∧ some k_ ≠ (.slice Ao43 t333.length co43 : Value).ownBlock) ∧ some k_ ≠ (.slice Ao53 t339.length co53 : Value).ownBlock) ∧ some k_ ≠ (.slice Ao63 t344.length co63 : Value).ownBlock)) (n := t349.length) (c := co73) ?_).2.2; exact (uR ((Kd.R_mono (Kd.R_far (p := ⟨gb353, 1, none⟩) (Kd.R_far (p := ⟨gb353, 0, none⟩) (Kd.R_types HO351.out BK353.out (by decide)) (fun _ hk => hk.2) (.int .i64 t348)) (fun _ hk => hk.2) (.slice Ao73 t349.length co73)) (fun _ h_ => h_.1))))); (case side2 => exact (Kd.R_reads' HO351.out).2.1); (case side3 => refine (Kd.R_reads' (e := 2) (base := w.heap.size) (ok := fun k_ => ((((some k_ ≠ (v326 : Value).ownBlock ∧ some k_ ≠ (v330 : Value).ownBlock) ∧ some k_ ≠ (.slice Ao53 t339.length co53 : Value).ownBlock) ∧ some k_ ≠ (.slice Ao63 t344.length co63 : Value).ownBlock) ∧ some k_ ≠ (.slice Ao73 t349.length co73 : Value).ownBlock)) (n := t333.length) (c := co43) ?_).2.2; exact (uR ((Kd.R_mono (Kd.R_far (p := ⟨gb353, 1, none⟩) (Kd.R_far (p := ⟨gb353, 0, none⟩) (Kd.R_types HO335.out BK353.out (by decide)) (fun _ hk => hk.2) (.int .i64 t348)) (fun _ hk => hk.2) (.slice Ao73 t349.length co73)) (fun _ h_ => h_.1))))); (case side4 => exact (Kd.R_reads' HO335.out).2.1); rintro e w99 ⟨rfl, hb⟩; refine ⟨_, rfl, ?_⟩; have n0_ := zA (Kd.R_below (uR ((Kd.R_mono (Kd.R_far (p := ⟨gb353, 1, none⟩) (Kd.R_far (p := ⟨gb353, 0, none⟩) (Kd.R_types HO327.out BK353.out (by decide)) (fun _ hk => hk.2) (.int .i64 t348)) (fun _ hk => hk.2) (.slice Ao73 t349.length co73)) (fun _ h_ => h_.1)))) hb); have n1_ := zA (Kd.R_below (uR ((Kd.R_mono (Kd.R_far (p := ⟨gb353, 1, none⟩) (Kd.R_far (p := ⟨gb353, 0, none⟩) (Kd.R_types HO331.out BK353.out (by decide)) (fun _ hk => hk.2) (.int .i64 t348)) (fun _ hk => hk.2) (.slice Ao73 t349.length co73)) (fun _ h_ => h_.1)))) hb); have n2_ := zA (Kd.R_below (uR ((Kd.R_mono (Kd.R_far (p := ⟨gb353, 1, none⟩) (Kd.R_far (p := ⟨gb353, 0, none⟩) (Kd.R_types HO335.out BK353.out (by decide)) (fun _ hk => hk.2) (.int .i64 t348)) (fun _ hk => hk.2) (.slice Ao73 t349.length co73)) (fun _ h_ => h_.1)))) hb); have n3_ := zA (Kd.R_below (uR ((Kd.R_mono (Kd.R_far (p := ⟨gb353, 1, none⟩) (Kd.R_far (p := ⟨gb353, 0, none⟩) (Kd.R_types HO341.out BK353.out (by decide)) (fun _ hk => hk.2) (.int .i64 t348)) (fun _ hk => hk.2) (.slice Ao73 t349.length co73)) (fun _ h_ => h_.1)))) hb); have n4_ := zA (Kd.R_below (uR ((Kd.R_mono (Kd.R_far (p := ⟨gb353, 1, none⟩) (Kd.R_far (p := ⟨gb353, 0, none⟩) (Kd.R_types HO346.out BK353.out (by decide)) (fun _ hk => hk.2) (.int .i64 t348)) (fun _ hk => hk.2) (.slice Ao73 t349.length co73)) (fun _ h_ => h_.1)))) hb); have n5_ := zA (Kd.R_below (uR ((Kd.R_mono (Kd.R_far (p := ⟨gb353, 1, none⟩) (Kd.R_far (p := ⟨gb353, 0, none⟩) (Kd.R_types HO351.out BK353.out (by decide)) (fun _ hk => hk.2) (.int .i64 t348)) (fun _ hk => hk.2) (.slice Ao73 t349.length co73)) (fun _ h_ => h_.1)))) hb); have n6_ := zA (blk_below (g := gb320) (o := .cells #[.int .i64 a0_0, .slice A0_1 l0_1.length c0_1] 32 (0, 0)) (by (with_reducible repeat (first | refine blk_drewN ?_ _ | refine blk_drew ?_ | refine blk_alloc ?_ _)); refine blk_far ?_ NB320_353.out _; (with_reducible repeat (first | refine blk_drewN ?_ _ | refine blk_drew ?_ | refine blk_alloc ?_ _)); refine blk_far ?_ NB320_353.out _; (with_reducible repeat (first | refine blk_drewN ?_ _ | refine blk_drew ?_ | refine blk_alloc ?_ _)); exact BK320.out) hb); have n7_ := zA (blk_below (g := gb321) (o := .cells #[.int .i64 a1_0, .slice A1_1 l1_1.length c1_1] 32 (0, 0)) (by (with_reducible repeat (first | refine blk_drewN ?_ _ | refine blk_drew ?_ | refine blk_alloc ?_ _)); refine blk_far ?_ NB321_353.out _; (with_reducible repeat (first | refine blk_drewN ?_ _ | refine blk_drew ?_ | refine blk_alloc ?_ _)); refine blk_far ?_ NB321_353.out _; (with_reducible repeat (first | refine blk_drewN ?_ _ | refine blk_drew ?_ | refine blk_alloc ?_ _)); exact BK321.out) hb); have n8_ := zA (blk_below (g := gb337) (o := .cells #[.int .i64 t332, .slice Ao43 t333.length co43] 36 (0, 0)) (by (with_reducible repeat (first | refine blk_drewN ?_ _ | refine blk_drew ?_ | refine blk_alloc ?_ _)); refine blk_far ?_ NB337_353.out _; (with_reducible repeat (first | refine blk_drewN ?_ _ | refine blk_drew ?_ | refine blk_alloc ?_ _)); refine blk_far ?_ NB337_353.out _; (with_reducible repeat (first | refine blk_drewN ?_ _ | refine blk_drew ?_ | refine blk_alloc ?_ _)); exact BK337.out) hb); have n9_ := zA (blk_below (g := gb342) (o := .cells #[.int .i64 t338, .slice Ao53 t339.length co53] 36 (0, 0)) (by (with_reducible repeat (first | refine blk_drewN ?_ _ | refine blk_drew ?_ | refine blk_alloc ?_ _)); refine blk_far ?_ NB342_353.out _; (with_reducible repeat (first | refine blk_drewN ?_ _ | refine blk_drew ?_ | refine blk_alloc ?_ _)); refine blk_far ?_ NB342_353.out _; (with_reducible repeat (first | refine blk_drewN ?_ _ | refine blk_drew ?_ | refine blk_alloc ?_ _)); exact BK342.out) hb); have n10_ := zA (blk_below (g := gb347) (o := .cells #[.int .i64 t343, .slice Ao63 t344.length co63] 36 (0, 0)) (by (with_reducible repeat (first | refine blk_drewN ?_ _ | refine blk_drew ?_ | refine blk_alloc ?_ _)); refine blk_far ?_ NB347_353.out _; (with_reducible repeat (first | refine blk_drewN ?_ _ | refine blk_drew ?_ | refine blk_alloc ?_ _)); refine blk_far ?_ NB347_353.out _; (with_reducible repeat (first | refine blk_drewN ?_ _ | refine blk_drew ?_ | refine blk_alloc ?_ _)); exact BK347.out) hb); have n11_ := zA (blk_below (g := gb353) (o := .cells #[.int .i64 t348, .slice Ao73 t349.length co73] 36 (0, 0)) (by (with_reducible repeat (first | refine blk_drewN ?_ _ | refine blk_drew ?_ | refine blk_alloc ?_ _)); refine blk_put (cs := #[.int .i64 t348, .slice none 0 0]) ?_ 1 _ rfl; (with_reducible repeat (first | refine blk_drewN ?_ _ | refine blk_drew ?_ | refine blk_alloc ?_ _)); refine blk_put (cs := #[.int .i64 0, .slice none 0 0]) ?_ 0 _ rfl; (with_reducible repeat (first | refine blk_drewN ?_ _ | refine blk_drew ?_ | refine blk_alloc ?_ _)); exact BK353.out) hb); have n12_ := xH HB hb; clear HO327 HO331 HO335 HO341 HO346 HO351 BK320 BK321 BK337 BK342 BK347 BK353 HB; have HO327 := n0_; have HO331 := n1_; have HO335 := n2_; have HO341 := n3_; have HO346 := n4_; have HO351 := n5_; have BK320 := n6_; have BK321 := n7_; have BK337 := n8_; have BK342 := n9_; have BK347 := n10_; have BK353 := n11_; have HB := n12_; clear n0_ n1_ n2_ n3_ n4_ n5_ n6_ n7_ n8_ n9_ n10_ n11_ n12_; (try clear hb); (try clear hb2); (try clear hk); (try clear hi)))
     go_meet
     case rel => exact ⟨_, (true), (by first | rfl | (simp; done) | (simp [*]; done)), H', ⟨by first | omega | exact Nat.le_refl _⟩, ⟨uR (Kd.R_mono HO335.out (fun _ hk => ⟨hk.1.1.2, ⟨hk.1.2, hk.2⟩⟩))⟩, ⟨uR (Kd.R_mono HO341.out (fun _ hk => ⟨hk.1.1.2, ⟨hk.1.2, hk.2⟩⟩))⟩, ⟨uR (Kd.R_mono HO346.out (fun _ hk => ⟨hk.1.1.2, ⟨hk.1.2, hk.2⟩⟩))⟩, ⟨uR (Kd.R_mono HO351.out (fun _ hk => ⟨hk.1.1.2, ⟨hk.1.2, hk.2⟩⟩))⟩, ⟨uB BK320.out⟩, ⟨uB BK321.out⟩, ⟨uB BK337.out⟩, ⟨uB BK342.out⟩, ⟨uB BK347.out⟩, ⟨uB BK353.out⟩, ⟨uH HB.out⟩⟩
   case rest =>
    clear HC26
    try clear c1
    try clear c2
    try clear p2
    try clear c4
    try clear c5
    try clear c6
    try clear c7
    try clear c8
    try clear c9
    try clear c16
    try clear c19
    try clear c21
    try clear c22
    try clear c45
    try clear c49
    try clear c50
    try clear c51
    try clear c54
    try clear c58
    try clear c59
    try clear c60
    try clear c61
    try clear c67
    try clear c68
    try clear c69
    try clear c70
    try clear c71
    try clear c75
    try clear c76
    try clear c77
    try clear c78
    try clear c79
    try clear c80
    try clear c82
    try clear c83
    try clear c84
    try clear c85
    try clear c88
    try clear c89
    try clear c90
    try clear c91
    try clear c92
    try clear c94
    try clear c95
    try clear c96
    try clear c97
    try clear hcz46_0
    try clear hcz46_1
    try clear hcz52_0
    try clear hcz52_1
    try clear hcz55_0
    try clear hcz55_1
    try clear hcz62_0
    try clear hcz62_1
    try clear hcz64_0
    try clear hcz64_1
    try clear hcz72_0
    try clear hcz72_1
    try clear hcz81_0
    try clear hcz81_1
    try clear hcz86_0
    try clear hcz86_1
    try clear hcz93_0
    try clear hcz93_1
    try clear hcz98_0
    try clear hcz98_1
    try clear hfz46_0
    try clear hfz46_1
    try clear hfz52_0
    try clear hfz52_1
    try clear hfz55_0
    try clear hfz55_1
    try clear hfz62_0
    try clear hfz62_1
    try clear hfz64_0
    try clear hfz64_1
    try clear hfz72_0
    try clear hfz72_1
    try clear hfz81_0
    try clear hfz81_1
    try clear hfz86_0
    try clear hfz86_1
    try clear hfz93_0
    try clear hfz93_1
    try clear hfz98_0
    try clear hfz98_1
    obtain ⟨kq, x57_25, rfl, HA, HJ25, HO_338001, HO_343001, HO_348001, HO_354001, BK320, BK321, BK337, BK342, BK347, BK353, HB⟩ := hcut
    cases kq with
    | zero => exact absurd HA.out (by simp [laws_FnExactAddMoments.j0])
    | succ kj25 =>
     have H := HA.out
     clear HA
     simp only [laws_FnExactAddMoments.j0] at H
     by_cases c100 : x57_25 = true
     ·subst c100
      have H1 : (some false) = some r := by rw [if_pos rfl] at H; exact H
      clear H
      have H := H1
      clear H1
      rw [HRT.out] at H
      exact absurd H (by simp)
     ·replace c100 := Bool.eq_false_iff.mpr c100
      subst c100
      have H1 : ((laws_toMoments.f kj25 a0_0 l0_1).bind fun bt355 => ((laws_eqMoments.f kj25 t338 t339 bt355.1 bt355.2).bind fun t359 => (if t359 = true then ((laws_toMoments.f kj25 a1_0 l1_1).bind fun bt360 => ((laws_eqMoments.f kj25 t343 t344 bt360.1 bt360.2).bind fun t364 => (if t364 = true then ((laws_markMoments.f kj25 t338 t339 1).bind fun bt365 => ((laws_markMoments.f kj25 t343 t344 bt365.1).bind fun bt367 => (if bt367.1 < 0 then (laws_FnExactAddMoments.j1 kj25 a2 t336 true a0_0 l0_1 a1_0 l1_1 t332 t333 t348 t349) else ((laws_eqMoments.f kj25 t348 t349 t332 t333).bind fun t369 => (if t369 = true then (laws_FnExactAddMoments.j1 kj25 a2 t336 (t352 != t336) a0_0 l0_1 a1_0 l1_1 t332 t333 t348 t349) else (laws_FnExactAddMoments.j1 kj25 a2 t336 true a0_0 l0_1 a1_0 l1_1 t332 t333 t348 t349)))))) else (some false)))) else (some false)))) = some r := by rw [if_neg (show ¬ (false = true) by decide)] at H; exact H
      clear H
      have H := H1
      clear H1
      replace H := Option.bind_eq_some_iff.mp H
      obtain ⟨⟨t355, t356⟩, A1010, H⟩ := H
      replace H : ((laws_eqMoments.f kj25 t338 t339 t355 t356).bind fun t359 => (if t359 = true then ((laws_toMoments.f kj25 a1_0 l1_1).bind fun bt360 => ((laws_eqMoments.f kj25 t343 t344 bt360.1 bt360.2).bind fun t364 => (if t364 = true then ((laws_markMoments.f kj25 t338 t339 1).bind fun bt365 => ((laws_markMoments.f kj25 t343 t344 bt365.1).bind fun bt367 => (if bt367.1 < 0 then (laws_FnExactAddMoments.j1 kj25 a2 t336 true a0_0 l0_1 a1_0 l1_1 t332 t333 t348 t349) else ((laws_eqMoments.f kj25 t348 t349 t332 t333).bind fun t369 => (if t369 = true then (laws_FnExactAddMoments.j1 kj25 a2 t336 (t352 != t336) a0_0 l0_1 a1_0 l1_1 t332 t333 t348 t349) else (laws_FnExactAddMoments.j1 kj25 a2 t336 true a0_0 l0_1 a1_0 l1_1 t332 t333 t348 t349)))))) else (some false)))) else (some false))) = some r := H
      have A101 := zA A1010
      clear A1010
      replace H := Option.bind_eq_some_iff.mp H
      obtain ⟨t359, A1020, H⟩ := H
      replace H : (if t359 = true then ((laws_toMoments.f kj25 a1_0 l1_1).bind fun bt360 => ((laws_eqMoments.f kj25 t343 t344 bt360.1 bt360.2).bind fun t364 => (if t364 = true then ((laws_markMoments.f kj25 t338 t339 1).bind fun bt365 => ((laws_markMoments.f kj25 t343 t344 bt365.1).bind fun bt367 => (if bt367.1 < 0 then (laws_FnExactAddMoments.j1 kj25 a2 t336 true a0_0 l0_1 a1_0 l1_1 t332 t333 t348 t349) else ((laws_eqMoments.f kj25 t348 t349 t332 t333).bind fun t369 => (if t369 = true then (laws_FnExactAddMoments.j1 kj25 a2 t336 (t352 != t336) a0_0 l0_1 a1_0 l1_1 t332 t333 t348 t349) else (laws_FnExactAddMoments.j1 kj25 a2 t336 true a0_0 l0_1 a1_0 l1_1 t332 t333 t348 t349)))))) else (some false)))) else (some false)) = some r := H
      have A102 := zA A1020
      clear A1020
      by_cases c103 : t359 = true
      ·subst c103
       have H1 : ((laws_toMoments.f kj25 a1_0 l1_1).bind fun bt360 => ((laws_eqMoments.f kj25 t343 t344 bt360.1 bt360.2).bind fun t364 => (if t364 = true then ((laws_markMoments.f kj25 t338 t339 1).bind fun bt365 => ((laws_markMoments.f kj25 t343 t344 bt365.1).bind fun bt367 => (if bt367.1 < 0 then (laws_FnExactAddMoments.j1 kj25 a2 t336 true a0_0 l0_1 a1_0 l1_1 t332 t333 t348 t349) else ((laws_eqMoments.f kj25 t348 t349 t332 t333).bind fun t369 => (if t369 = true then (laws_FnExactAddMoments.j1 kj25 a2 t336 (t352 != t336) a0_0 l0_1 a1_0 l1_1 t332 t333 t348 t349) else (laws_FnExactAddMoments.j1 kj25 a2 t336 true a0_0 l0_1 a1_0 l1_1 t332 t333 t348 t349)))))) else (some false)))) = some r := by rw [if_pos rfl] at H; exact H
       clear H
       have H := H1
       clear H1
       replace H := Option.bind_eq_some_iff.mp H
       obtain ⟨⟨t360, t361⟩, A1040, H⟩ := H
       replace H : ((laws_eqMoments.f kj25 t343 t344 t360 t361).bind fun t364 => (if t364 = true then ((laws_markMoments.f kj25 t338 t339 1).bind fun bt365 => ((laws_markMoments.f kj25 t343 t344 bt365.1).bind fun bt367 => (if bt367.1 < 0 then (laws_FnExactAddMoments.j1 kj25 a2 t336 true a0_0 l0_1 a1_0 l1_1 t332 t333 t348 t349) else ((laws_eqMoments.f kj25 t348 t349 t332 t333).bind fun t369 => (if t369 = true then (laws_FnExactAddMoments.j1 kj25 a2 t336 (t352 != t336) a0_0 l0_1 a1_0 l1_1 t332 t333 t348 t349) else (laws_FnExactAddMoments.j1 kj25 a2 t336 true a0_0 l0_1 a1_0 l1_1 t332 t333 t348 t349)))))) else (some false))) = some r := H
       have A104 := zA A1040
       clear A1040
       replace H := Option.bind_eq_some_iff.mp H
       obtain ⟨t364, A1050, H⟩ := H
       replace H : (if t364 = true then ((laws_markMoments.f kj25 t338 t339 1).bind fun bt365 => ((laws_markMoments.f kj25 t343 t344 bt365.1).bind fun bt367 => (if bt367.1 < 0 then (laws_FnExactAddMoments.j1 kj25 a2 t336 true a0_0 l0_1 a1_0 l1_1 t332 t333 t348 t349) else ((laws_eqMoments.f kj25 t348 t349 t332 t333).bind fun t369 => (if t369 = true then (laws_FnExactAddMoments.j1 kj25 a2 t336 (t352 != t336) a0_0 l0_1 a1_0 l1_1 t332 t333 t348 t349) else (laws_FnExactAddMoments.j1 kj25 a2 t336 true a0_0 l0_1 a1_0 l1_1 t332 t333 t348 t349)))))) else (some false)) = some r := H
       have A105 := zA A1050
       clear A1050
       by_cases c106 : t364 = true
       ·subst c106
        have H1 : ((laws_markMoments.f kj25 t338 t339 1).bind fun bt365 => ((laws_markMoments.f kj25 t343 t344 bt365.1).bind fun bt367 => (if bt367.1 < 0 then (laws_FnExactAddMoments.j1 kj25 a2 t336 true a0_0 l0_1 a1_0 l1_1 t332 t333 t348 t349) else ((laws_eqMoments.f kj25 t348 t349 t332 t333).bind fun t369 => (if t369 = true then (laws_FnExactAddMoments.j1 kj25 a2 t336 (t352 != t336) a0_0 l0_1 a1_0 l1_1 t332 t333 t348 t349) else (laws_FnExactAddMoments.j1 kj25 a2 t336 true a0_0 l0_1 a1_0 l1_1 t332 t333 t348 t349)))))) = some r := by rw [if_pos rfl] at H; exact H
        clear H
        have H := H1
        clear H1
        replace H := Option.bind_eq_some_iff.mp H
        obtain ⟨⟨t365, t366⟩, A1070, H⟩ := H
        replace H : ((laws_markMoments.f kj25 t343 t344 t365).bind fun bt367 => (if bt367.1 < 0 then (laws_FnExactAddMoments.j1 kj25 a2 t336 true a0_0 l0_1 a1_0 l1_1 t332 t333 t348 t349) else ((laws_eqMoments.f kj25 t348 t349 t332 t333).bind fun t369 => (if t369 = true then (laws_FnExactAddMoments.j1 kj25 a2 t336 (t352 != t336) a0_0 l0_1 a1_0 l1_1 t332 t333 t348 t349) else (laws_FnExactAddMoments.j1 kj25 a2 t336 true a0_0 l0_1 a1_0 l1_1 t332 t333 t348 t349))))) = some r := H
        have A107 := zA A1070
        clear A1070
        replace H := Option.bind_eq_some_iff.mp H
        obtain ⟨⟨t367, t368⟩, A1080, H⟩ := H
        replace H : (if t367 < 0 then (laws_FnExactAddMoments.j1 kj25 a2 t336 true a0_0 l0_1 a1_0 l1_1 t332 t333 t348 t349) else ((laws_eqMoments.f kj25 t348 t349 t332 t333).bind fun t369 => (if t369 = true then (laws_FnExactAddMoments.j1 kj25 a2 t336 (t352 != t336) a0_0 l0_1 a1_0 l1_1 t332 t333 t348 t349) else (laws_FnExactAddMoments.j1 kj25 a2 t336 true a0_0 l0_1 a1_0 l1_1 t332 t333 t348 t349)))) = some r := H
        have A108 := zA A1080
        clear A1080
        have HC109 := zA H
        clear H
        try go_wp2
        have n0_ := zA (Kd.R_drew HO_338001.out)
        have n1_ := zA (Kd.R_drew HO_343001.out)
        have n2_ := zA (Kd.R_drew HO_348001.out)
        have n3_ := zA (Kd.R_drew HO_354001.out)
        have n4_ := zA (blk_drew BK320.out)
        have n5_ := zA (blk_drew BK321.out)
        have n6_ := zA (blk_drew BK337.out)
        have n7_ := zA (blk_drew BK342.out)
        have n8_ := zA (blk_drew BK347.out)
        have n9_ := zA (blk_drew BK353.out)
        have n10_ := zA (below_drew1 HB.out)
        clear HO_338001 HO_343001 HO_348001 HO_354001 BK320 BK321 BK337 BK342 BK347 BK353 HB
        have HO_338001 := n0_; have HO_343001 := n1_; have HO_348001 := n2_; have HO_354001 := n3_; have BK320 := n4_; have BK321 := n5_; have BK337 := n6_; have BK342 := n7_; have BK347 := n8_; have BK353 := n9_; have HB := n10_
        clear n0_ n1_ n2_ n3_ n4_ n5_ n6_ n7_ n8_ n9_ n10_
        refine start_ (n := 5) (S := fun w' => w'.cell? ⟨gb342, 0, none⟩ = some (.int .i64 t338) ∧ w'.cell? ⟨gb342, 1, none⟩ = some (.slice Ao53 t339.length co53) ∧ w'.cell? ⟨gb320, 0, none⟩ = some (.int .i64 a0_0) ∧ w'.cell? ⟨gb320, 1, none⟩ = some (.slice A0_1 l0_1.length c0_1)) (ds := []) #[false, false, false, false, false] (by kernel_rfl) rfl rfl ⟨(blk_cell BK342.out 0).trans rfl, (blk_cell BK342.out 1).trans rfl, (blk_cell BK320.out 0).trans rfl, (blk_cell BK320.out 1).trans rfl⟩ (fun hHeld => ?_)
        generalize wc.drew = w110 at HO_338001 HO_343001 HO_348001 HO_354001 BK320 BK321 BK337 BK342 BK347 BK353 HB hHeld ⊢
        refine take_ (i := 0) (N := some 58) (v := ?_) (a' := ?_) #[true, false, false, false, false] rfl rfl (by kernel_rfl) (fun _ _ _ h => h) (Or.inl ⟨by rfl, ?_⟩) hHeld ?_ ?_
        rotate_left
        ·rintro w' ⟨s0, s1, s2, s3⟩
         go_simp
         with_reducible rfl
        rotate_left
        ·simp only [Act.put, List.setIfInBounds_toArray, List.set_cons_zero, List.set_cons_succ, i64_w, i32_w]
         rfl
        refine take_ (i := 1) (N := some 59) (v := ?_) (a' := ?_) #[true, true, false, false, false] rfl rfl (by kernel_rfl) (fun _ _ _ h => h) (Or.inl ⟨by rfl, ?_⟩) hHeld ?_ ?_
        rotate_left
        ·rintro w' ⟨s0, s1, s2, s3⟩
         go_simp
         with_reducible rfl
        rotate_left
        ·simp only [Act.put, List.setIfInBounds_toArray, List.set_cons_zero, List.set_cons_succ, i64_w, i32_w]
         rfl
        refine one_ (i := 2) (N := some 60) #[true, true, true, false, false] rfl rfl (by kernel_rfl) (by decide) (fun K hK => ?_)
        refine goes_ Try.func16 (by kernel_rfl) rfl #[.agg #[.int .i64 a0_0, .slice A0_1 l0_1.length c0_1]] (by rfl) rfl rfl (by (try simp only [List.map_toArray, List.map_cons, List.map_nil]); first | done | rfl | (simp only [List.length_drop, List.length_take]; rfl)) ?_
        with_reducible refine (laws_toMoments.calls kj25 a0_0 _ _ l0_1 t355 t356 _ ?side1 ?side2 A101.out).mono ?_
        (case side1 => exact uC ((Kd.C_below HR0_1.out HB.out)))
        (case side2 => exact HC0_1.out)
        rintro e w111 ⟨v357, rfl, ho0, hb⟩
        refine ⟨_, rfl, ?_⟩
        have n0_ := zA (Kd.R_elder' (uR HO_338001.out) (Kd.R_base ho0) hb)
        have n1_ := zA (Kd.R_elder' (uR HO_343001.out) (Kd.R_base ho0) hb)
        have n2_ := zA (Kd.R_elder' (uR HO_348001.out) (Kd.R_base ho0) hb)
        have n3_ := zA (Kd.R_elder' (uR HO_354001.out) (Kd.R_base ho0) hb)
        have n4_ := zA (Kd.R_lower (Kd.R_new' (Kd.R_new' (Kd.R_new' (Kd.R_new' ho0 (Kd.R_lt (uR HO_338001.out))) (Kd.R_lt (uR HO_343001.out))) (Kd.R_lt (uR HO_348001.out))) (Kd.R_lt (uR HO_354001.out))) (below_size (uH HB.out)))
        have n5_ := xB BK320 hb
        have n6_ := xB BK321 hb
        have n7_ := xB BK337 hb
        have n8_ := xB BK342 hb
        have n9_ := xB BK347 hb
        have n10_ := xB BK353 hb
        have n11_ := xH HB hb
        clear HO_338001 HO_343001 HO_348001 HO_354001 BK320 BK321 BK337 BK342 BK347 BK353 HB
        have HO_338001 := n0_; have HO_343001 := n1_; have HO_348001 := n2_; have HO_354001 := n3_; have HO358 := n4_; have BK320 := n5_; have BK321 := n6_; have BK337 := n7_; have BK342 := n8_; have BK347 := n9_; have BK353 := n10_; have HB := n11_
        clear n0_ n1_ n2_ n3_ n4_ n5_ n6_ n7_ n8_ n9_ n10_ n11_
        (try clear hb); (try clear hb2); (try clear hk); (try clear hi); (try clear ho0)
        obtain ⟨Ao112, co112, eo112⟩ := Kd.R_slice HO358.out
        (first | subst eo112 | (injection eo112 with f1_ f2_ f3_; have f4_ := f1_.symm; have f5_ := f3_.symm; clear f1_ f2_ f3_; subst f4_; subst f5_))
        refine hK.out _ _ ⟨(blk_cell BK342.out 0).trans rfl, (blk_cell BK342.out 1).trans rfl, (blk_cell BK320.out 0).trans rfl, (blk_cell BK320.out 1).trans rfl⟩ (fun hHeld => ?_)
        clear hK K
        refine norm_ (a' := ?_) ?_ ?_
        rotate_left
        ·show Act.put _ (some 60) _ = _
         simp only [Act.put, List.setIfInBounds_toArray, List.set_cons_zero, List.set_cons_succ, i64_w, i32_w]
         rfl
        refine one_ (i := 3) (N := some 61) #[true, true, true, true, false] rfl rfl (by kernel_rfl) (by decide) (fun K hK => ?_)
        refine goes_ Try.func19 (by kernel_rfl) rfl #[.agg #[.int .i64 t338, .slice Ao53 t339.length co53], .agg #[.int .i64 t355, .slice Ao112 t356.length co112]] (by rfl) rfl rfl (by (try simp only [List.map_toArray, List.map_cons, List.map_nil]); first | done | rfl | (simp only [List.length_drop, List.length_take]; rfl)) ?_
        with_reducible refine (laws_eqMoments.calls kj25 t338 _ _ t339 t355 _ _ t356 true _ ?side1 ?side2 ?side3 ?side4 A102.out).mono ?_
        (case side1 => exact uC ((Kd.R_reads' HO_343001.out).2.2))
        (case side2 => exact (Kd.R_reads' HO_343001.out).2.1)
        (case side3 => exact uC ((Kd.R_reads' HO358.out).2.2))
        (case side4 => exact (Kd.R_reads' HO358.out).2.1)
        rintro e w113 ⟨rfl, hb⟩
        refine ⟨_, rfl, ?_⟩
        have n0_ := xR HO_338001 hb
        have n1_ := xR HO_343001 hb
        have n2_ := xR HO_348001 hb
        have n3_ := xR HO_354001 hb
        have n4_ := xR HO358 hb
        have n5_ := xB BK320 hb
        have n6_ := xB BK321 hb
        have n7_ := xB BK337 hb
        have n8_ := xB BK342 hb
        have n9_ := xB BK347 hb
        have n10_ := xB BK353 hb
        have n11_ := xH HB hb
        clear HO_338001 HO_343001 HO_348001 HO_354001 HO358 BK320 BK321 BK337 BK342 BK347 BK353 HB
        have HO_338001 := n0_; have HO_343001 := n1_; have HO_348001 := n2_; have HO_354001 := n3_; have HO358 := n4_; have BK320 := n5_; have BK321 := n6_; have BK337 := n7_; have BK342 := n8_; have BK347 := n9_; have BK353 := n10_; have HB := n11_
        clear n0_ n1_ n2_ n3_ n4_ n5_ n6_ n7_ n8_ n9_ n10_ n11_
        (try clear hb); (try clear hb2); (try clear hk); (try clear hi)
        refine hK.out _ _ ⟨(blk_cell BK342.out 0).trans rfl, (blk_cell BK342.out 1).trans rfl, (blk_cell BK320.out 0).trans rfl, (blk_cell BK320.out 1).trans rfl⟩ (fun hHeld => ?_)
        clear hK K
        refine norm_ (a' := ?_) ?_ ?_
        rotate_left
        ·show Act.put _ (some 61) _ = _
         simp only [Act.put, List.setIfInBounds_toArray, List.set_cons_zero, List.set_cons_succ, i64_w, i32_w]
         rfl
        refine pure_ (i := 4) (N := some 62) (v := ?_) (a' := ?_) #[true, true, true, true, true] rfl rfl (by kernel_rfl) (fun _ _ _ h => h) (Or.inl ⟨by rfl, ?_⟩) ?_ ?_
        rotate_left
        ·intro w'
         go_simp
         with_reducible rfl
        rotate_left
        ·simp only [Act.put, List.setIfInBounds_toArray, List.set_cons_zero, List.set_cons_succ, i64_w, i32_w]
         rfl
        refine done_ (by kernel_rfl) ?_
        try go_wp2
        have n0_ := zA (Kd.R_drew HO_338001.out)
        have n1_ := zA (Kd.R_drew HO_343001.out)
        have n2_ := zA (Kd.R_drew HO_348001.out)
        have n3_ := zA (Kd.R_drew HO_354001.out)
        have n4_ := zA (Kd.R_drew HO358.out)
        have n5_ := zA (blk_drew BK320.out)
        have n6_ := zA (blk_drew BK321.out)
        have n7_ := zA (blk_drew BK337.out)
        have n8_ := zA (blk_drew BK342.out)
        have n9_ := zA (blk_drew BK347.out)
        have n10_ := zA (blk_drew BK353.out)
        have n11_ := zA (below_drew1 HB.out)
        clear HO_338001 HO_343001 HO_348001 HO_354001 HO358 BK320 BK321 BK337 BK342 BK347 BK353 HB
        have HO_338001 := n0_; have HO_343001 := n1_; have HO_348001 := n2_; have HO_354001 := n3_; have HO358 := n4_; have BK320 := n5_; have BK321 := n6_; have BK337 := n7_; have BK342 := n8_; have BK347 := n9_; have BK353 := n10_; have HB := n11_
        clear n0_ n1_ n2_ n3_ n4_ n5_ n6_ n7_ n8_ n9_ n10_ n11_
        refine start_ (n := 5) (S := fun w' => w'.cell? ⟨gb347, 0, none⟩ = some (.int .i64 t343) ∧ w'.cell? ⟨gb347, 1, none⟩ = some (.slice Ao63 t344.length co63) ∧ w'.cell? ⟨gb321, 0, none⟩ = some (.int .i64 a1_0) ∧ w'.cell? ⟨gb321, 1, none⟩ = some (.slice A1_1 l1_1.length c1_1)) (ds := []) #[false, false, false, false, false] (by kernel_rfl) rfl rfl ⟨(blk_cell BK347.out 0).trans rfl, (blk_cell BK347.out 1).trans rfl, (blk_cell BK321.out 0).trans rfl, (blk_cell BK321.out 1).trans rfl⟩ (fun hHeld => ?_)
        generalize w113.drew = w114 at HO_338001 HO_343001 HO_348001 HO_354001 HO358 BK320 BK321 BK337 BK342 BK347 BK353 HB hHeld ⊢
        refine take_ (i := 0) (N := some 63) (v := ?_) (a' := ?_) #[true, false, false, false, false] rfl rfl (by kernel_rfl) (fun _ _ _ h => h) (Or.inl ⟨by rfl, ?_⟩) hHeld ?_ ?_
        rotate_left
        ·rintro w' ⟨s0, s1, s2, s3⟩
         go_simp
         with_reducible rfl
        rotate_left
        ·simp only [Act.put, List.setIfInBounds_toArray, List.set_cons_zero, List.set_cons_succ, i64_w, i32_w]
         rfl
        refine take_ (i := 1) (N := some 64) (v := ?_) (a' := ?_) #[true, true, false, false, false] rfl rfl (by kernel_rfl) (fun _ _ _ h => h) (Or.inl ⟨by rfl, ?_⟩) hHeld ?_ ?_
        rotate_left
        ·rintro w' ⟨s0, s1, s2, s3⟩
         go_simp
         with_reducible rfl
        rotate_left
        ·simp only [Act.put, List.setIfInBounds_toArray, List.set_cons_zero, List.set_cons_succ, i64_w, i32_w]
         rfl
        refine one_ (i := 2) (N := some 65) #[true, true, true, false, false] rfl rfl (by kernel_rfl) (by decide) (fun K hK => ?_)
        refine goes_ Try.func16 (by kernel_rfl) rfl #[.agg #[.int .i64 a1_0, .slice A1_1 l1_1.length c1_1]] (by rfl) rfl rfl (by (try simp only [List.map_toArray, List.map_cons, List.map_nil]); first | done | rfl | (simp only [List.length_drop, List.length_take]; rfl)) ?_
        with_reducible refine (laws_toMoments.calls kj25 a1_0 _ _ l1_1 t360 t361 _ ?side1 ?side2 A104.out).mono ?_
        (case side1 => exact uC ((Kd.C_below HR1_1.out HB.out)))
        (case side2 => exact HC1_1.out)
        rintro e w115 ⟨v362, rfl, ho0, hb⟩
        refine ⟨_, rfl, ?_⟩
        have n0_ := zA (Kd.R_elder' (uR HO_338001.out) (Kd.R_base ho0) hb)
        have n1_ := zA (Kd.R_elder' (uR HO_343001.out) (Kd.R_base ho0) hb)
        have n2_ := zA (Kd.R_elder' (uR HO_348001.out) (Kd.R_base ho0) hb)
        have n3_ := zA (Kd.R_elder' (uR HO_354001.out) (Kd.R_base ho0) hb)
        have n4_ := zA (Kd.R_elder' (uR HO358.out) (Kd.R_base ho0) hb)
        have n5_ := zA (Kd.R_lower (Kd.R_new' (Kd.R_new' (Kd.R_new' (Kd.R_new' (Kd.R_new' ho0 (Kd.R_lt (uR HO_338001.out))) (Kd.R_lt (uR HO_343001.out))) (Kd.R_lt (uR HO_348001.out))) (Kd.R_lt (uR HO_354001.out))) (Kd.R_lt (uR HO358.out))) (below_size (uH HB.out)))
        have n6_ := xB BK320 hb
        have n7_ := xB BK321 hb
        have n8_ := xB BK337 hb
        have n9_ := xB BK342 hb
        have n10_ := xB BK347 hb
        have n11_ := xB BK353 hb
        have n12_ := xH HB hb
        clear HO_338001 HO_343001 HO_348001 HO_354001 HO358 BK320 BK321 BK337 BK342 BK347 BK353 HB
        have HO_338001 := n0_; have HO_343001 := n1_; have HO_348001 := n2_; have HO_354001 := n3_; have HO358 := n4_; have HO363 := n5_; have BK320 := n6_; have BK321 := n7_; have BK337 := n8_; have BK342 := n9_; have BK347 := n10_; have BK353 := n11_; have HB := n12_
        clear n0_ n1_ n2_ n3_ n4_ n5_ n6_ n7_ n8_ n9_ n10_ n11_ n12_
        (try clear hb); (try clear hb2); (try clear hk); (try clear hi); (try clear ho0)
        obtain ⟨Ao116, co116, eo116⟩ := Kd.R_slice HO363.out
        (first | subst eo116 | (injection eo116 with f1_ f2_ f3_; have f4_ := f1_.symm; have f5_ := f3_.symm; clear f1_ f2_ f3_; subst f4_; subst f5_))
        refine hK.out _ _ ⟨(blk_cell BK347.out 0).trans rfl, (blk_cell BK347.out 1).trans rfl, (blk_cell BK321.out 0).trans rfl, (blk_cell BK321.out 1).trans rfl⟩ (fun hHeld => ?_)
        clear hK K
        refine norm_ (a' := ?_) ?_ ?_
        rotate_left
        ·show Act.put _ (some 65) _ = _
         simp only [Act.put, List.setIfInBounds_toArray, List.set_cons_zero, List.set_cons_succ, i64_w, i32_w]
         rfl
        refine one_ (i := 3) (N := some 66) #[true, true, true, true, false] rfl rfl (by kernel_rfl) (by decide) (fun K hK => ?_)
        refine goes_ Try.func19 (by kernel_rfl) rfl #[.agg #[.int .i64 t343, .slice Ao63 t344.length co63], .agg #[.int .i64 t360, .slice Ao116 t361.length co116]] (by rfl) rfl rfl (by (try simp only [List.map_toArray, List.map_cons, List.map_nil]); first | done | rfl | (simp only [List.length_drop, List.length_take]; rfl)) ?_
        with_reducible refine (laws_eqMoments.calls kj25 t343 _ _ t344 t360 _ _ t361 true _ ?side1 ?side2 ?side3 ?side4 A105.out).mono ?_
        (case side1 => exact uC ((Kd.R_reads' HO_348001.out).2.2))
        (case side2 => exact (Kd.R_reads' HO_348001.out).2.1)
        (case side3 => exact uC ((Kd.R_reads' HO363.out).2.2))
        (case side4 => exact (Kd.R_reads' HO363.out).2.1)
        rintro e w117 ⟨rfl, hb⟩
        refine ⟨_, rfl, ?_⟩
        have n0_ := xR HO_338001 hb
        have n1_ := xR HO_343001 hb
        have n2_ := xR HO_348001 hb
        have n3_ := xR HO_354001 hb
        have n4_ := xR HO358 hb
        have n5_ := xR HO363 hb
        have n6_ := xB BK320 hb
        have n7_ := xB BK321 hb
        have n8_ := xB BK337 hb
        have n9_ := xB BK342 hb
        have n10_ := xB BK347 hb
        have n11_ := xB BK353 hb
        have n12_ := xH HB hb
        clear HO_338001 HO_343001 HO_348001 HO_354001 HO358 HO363 BK320 BK321 BK337 BK342 BK347 BK353 HB
        have HO_338001 := n0_; have HO_343001 := n1_; have HO_348001 := n2_; have HO_354001 := n3_; have HO358 := n4_; have HO363 := n5_; have BK320 := n6_; have BK321 := n7_; have BK337 := n8_; have BK342 := n9_; have BK347 := n10_; have BK353 := n11_; have HB := n12_
        clear n0_ n1_ n2_ n3_ n4_ n5_ n6_ n7_ n8_ n9_ n10_ n11_ n12_
        (try clear hb); (try clear hb2); (try clear hk); (try clear hi)
        refine hK.out _ _ ⟨(blk_cell BK347.out 0).trans rfl, (blk_cell BK347.out 1).trans rfl, (blk_cell BK321.out 0).trans rfl, (blk_cell BK321.out 1).trans rfl⟩ (fun hHeld => ?_)
        clear hK K
        refine norm_ (a' := ?_) ?_ ?_
        rotate_left
        ·show Act.put _ (some 66) _ = _
         simp only [Act.put, List.setIfInBounds_toArray, List.set_cons_zero, List.set_cons_succ, i64_w, i32_w]
         rfl
        refine pure_ (i := 4) (N := some 67) (v := ?_) (a' := ?_) #[true, true, true, true, true] rfl rfl (by kernel_rfl) (fun _ _ _ h => h) (Or.inl ⟨by rfl, ?_⟩) ?_ ?_
        rotate_left
        ·intro w'
         go_simp
         with_reducible rfl
        rotate_left
        ·simp only [Act.put, List.setIfInBounds_toArray, List.set_cons_zero, List.set_cons_succ, i64_w, i32_w]
         rfl
        refine done_ (by kernel_rfl) ?_
        have hnb118 := NB342_320.out; have hnc118 := NB320_342.out; have hnb119 := NB342_321.out; have hnc119 := NB321_342.out; have hnb120 := NB342_337.out; have hnc120 := NB337_342.out; have hnb121 := NB342_347.out; have hnc121 := NB347_342.out; have hnb122 := NB342_353.out; have hnc122 := NB353_342.out
        have hcz123_0 : w117.cell? ⟨gb342, 0, none⟩ = some (.int .i64 t338) := (blk_cell BK342.out 0).trans rfl
        have hcz123_1 : w117.cell? ⟨gb342, 1, none⟩ = some (.slice Ao53 t339.length co53) := (blk_cell BK342.out 1).trans rfl
        have hfz123_0 := blk_frozen BK342.out 0
        have hfz123_1 := blk_frozen BK342.out 1
        go_upto_region 21 with (first | ((with_reducible refine gate_callee (f := 23) rfl ?_); refine goesL_ (some 70) rfl rfl Try.func23 (by kernel_rfl) rfl #[.agg #[.int .i64 t338, .slice Ao53 t339.length co53], .int .i64 1] rfl (by (try simp only [List.map_toArray, List.map_cons, List.map_nil]); first | done | rfl | (simp only [List.length_drop, List.length_take]; rfl)) ?_; (with_reducible refine (laws_markMoments.calls kj25 t338 (fun k_ => some k_ = (.slice Ao53 t339.length co53 : Value).ownBlock) (.slice Ao53 t339.length co53) t339 1 t365 t366 w _ ?side1 ?side2 A107.out).mono ?_); (case side1 => repeat (first | (with_reducible first | exact HB.out | apply below_alloc | apply pw_below_drewN | apply below_drew1 | refine below_set ?_ GE320.out | refine below_set ?_ GE321.out | refine below_set ?_ GE337.out | refine below_set ?_ GE342.out | refine below_set ?_ GE347.out | refine below_set ?_ GE353.out) | exact HB.out)); (case side2 => exact Kd.R_tight rfl HO_343001.out); rintro e w124 ⟨rfl, hy0, hb, hkp⟩; refine ⟨_, rfl, ?_⟩; have n0_ := zA (Kd.R_mono (ok' := fun k_ => some k_ ≠ (.slice Ao53 t339.length co53 : Value).ownBlock ∧ some k_ ≠ (.slice Ao63 t344.length co63 : Value).ownBlock ∧ some k_ ≠ (.slice Ao73 t349.length co73 : Value).ownBlock ∧ some k_ ≠ (.slice Ao112 t356.length co112 : Value).ownBlock ∧ some k_ ≠ (.slice Ao116 t361.length co116 : Value).ownBlock) (Kd.R_keptB (HO_338001.out) hkp (fun k_ hk_ hs_ => (hk_.1.1.1) hs_)) (fun k_ hk_ => ⟨hk_.1.1.1.1, hk_.1.1.1.2.1, hk_.1.1.1.2.2, hk_.1.1.2, hk_.1.2⟩)); have n1_ := zA (Kd.R_reok rfl hy0 (fun k_ e_ => HO_343001.out.1 k_ e_)); have n2_ := zA (Kd.R_mono (ok' := fun k_ => some k_ ≠ (.slice Ao43 t333.length co43 : Value).ownBlock ∧ some k_ ≠ (.slice Ao53 t339.length co53 : Value).ownBlock ∧ some k_ ≠ (.slice Ao73 t349.length co73 : Value).ownBlock ∧ some k_ ≠ (.slice Ao112 t356.length co112 : Value).ownBlock ∧ some k_ ≠ (.slice Ao116 t361.length co116 : Value).ownBlock) (Kd.R_keptB (HO_348001.out) hkp (fun k_ hk_ hs_ => (hk_.1.1.2.1) hs_)) (fun k_ hk_ => ⟨hk_.1.1.1.1, hk_.1.1.1.2.1, hk_.1.1.1.2.2, hk_.1.1.2, hk_.1.2⟩)); have n3_ := zA (Kd.R_mono (ok' := fun k_ => some k_ ≠ (.slice Ao43 t333.length co43 : Value).ownBlock ∧ some k_ ≠ (.slice Ao53 t339.length co53 : Value).ownBlock ∧ some k_ ≠ (.slice Ao63 t344.length co63 : Value).ownBlock ∧ some k_ ≠ (.slice Ao112 t356.length co112 : Value).ownBlock ∧ some k_ ≠ (.slice Ao116 t361.length co116 : Value).ownBlock) (Kd.R_keptB (HO_354001.out) hkp (fun k_ hk_ hs_ => (hk_.1.1.2.1) hs_)) (fun k_ hk_ => ⟨hk_.1.1.1.1, hk_.1.1.1.2.1, hk_.1.1.1.2.2, hk_.1.1.2, hk_.1.2⟩)); have n4_ := zA (blk_kept (uB BK320.out) hkp (fun hs_ => (fun e_ => (Kd.R_ne HO_343001.out BK320.out (by decide)) e_) hs_)); have n5_ := zA (blk_kept (uB BK321.out) hkp (fun hs_ => (fun e_ => (Kd.R_ne HO_343001.out BK321.out (by decide)) e_) hs_)); have n6_ := zA (blk_kept (uB BK337.out) hkp (fun hs_ => (fun e_ => (Kd.R_ne HO_343001.out BK337.out (by decide)) e_) hs_)); have n7_ := zA (blk_kept (uB BK342.out) hkp (fun hs_ => (fun e_ => (Kd.R_ne HO_343001.out BK342.out (by decide)) e_) hs_)); have n8_ := zA (blk_kept (uB BK347.out) hkp (fun hs_ => (fun e_ => (Kd.R_ne HO_343001.out BK347.out (by decide)) e_) hs_)); have n9_ := zA (blk_kept (uB BK353.out) hkp (fun hs_ => (fun e_ => (Kd.R_ne HO_343001.out BK353.out (by decide)) e_) hs_)); have n10_ := zA (Kd.R_mono (ok' := fun k_ => some k_ ≠ (.slice Ao43 t333.length co43 : Value).ownBlock ∧ some k_ ≠ (.slice Ao53 t339.length co53 : Value).ownBlock ∧ some k_ ≠ (.slice Ao63 t344.length co63 : Value).ownBlock ∧ some k_ ≠ (.slice Ao73 t349.length co73 : Value).ownBlock ∧ some k_ ≠ (.slice Ao116 t361.length co116 : Value).ownBlock) (Kd.R_keptB (HO358.out) hkp (fun k_ hk_ hs_ => (hk_.1.1.1.2) hs_)) (fun k_ hk_ => ⟨hk_.1.1.1.1.1.2, hk_.1.1.1.1.2, hk_.1.1.1.2, hk_.1.1.2, hk_.1.2⟩)); have n11_ := zA (Kd.R_mono (ok' := fun k_ => some k_ ≠ (.slice Ao43 t333.length co43 : Value).ownBlock ∧ some k_ ≠ (.slice Ao53 t339.length co53 : Value).ownBlock ∧ some k_ ≠ (.slice Ao63 t344.length co63 : Value).ownBlock ∧ some k_ ≠ (.slice Ao73 t349.length co73 : Value).ownBlock ∧ some k_ ≠ (.slice Ao112 t356.length co112 : Value).ownBlock) (Kd.R_keptB (HO363.out) hkp (fun k_ hk_ hs_ => (hk_.1.1.1.2) hs_)) (fun k_ hk_ => ⟨hk_.1.1.1.1.1.2, hk_.1.1.1.1.2, hk_.1.1.1.2, hk_.1.1.2, hk_.1.2⟩)); have n12_ := zA (hb); clear HO_338001 HO_343001 HO_348001 HO_354001 BK320 BK321 BK337 BK342 BK347 BK353 HO358 HO363 HB; have HO_338001 := n0_; have HO_343001 := n1_; have HO_348001 := n2_; have HO_354001 := n3_; have BK320 := n4_; have BK321 := n5_; have BK337 := n6_; have BK342 := n7_; have BK347 := n8_; have BK353 := n9_; have HO358 := n10_; have HO363 := n11_; have HB := n12_; clear n0_ n1_ n2_ n3_ n4_ n5_ n6_ n7_ n8_ n9_ n10_ n11_ n12_; (try clear hb); (try clear hkp); (try clear hy0); have hnb125 := NB347_320.out; have hnc125 := NB320_347.out; have hnb126 := NB347_321.out; have hnc126 := NB321_347.out; have hnb127 := NB347_337.out; have hnc127 := NB337_347.out; have hnb128 := NB347_353.out; have hnc128 := NB353_347.out; have hcz129_0 : w124.cell? ⟨gb347, 0, none⟩ = some (.int .i64 t343) := (blk_cell BK347.out 0).trans rfl; have hcz129_1 : w124.cell? ⟨gb347, 1, none⟩ = some (.slice Ao63 t344.length co63) := (blk_cell BK347.out 1).trans rfl; have hfz129_0 := blk_frozen BK347.out 0; have hfz129_1 := blk_frozen BK347.out 1) | ((with_reducible refine gate_callee (f := 23) rfl ?_); refine goesL_ (some 73) rfl rfl Try.func23 (by kernel_rfl) rfl #[.agg #[.int .i64 t343, .slice Ao63 t344.length co63], .int .i64 t365] rfl (by (try simp only [List.map_toArray, List.map_cons, List.map_nil]); first | done | rfl | (simp only [List.length_drop, List.length_take]; rfl)) ?_; (with_reducible refine (laws_markMoments.calls kj25 t343 (fun k_ => some k_ = (.slice Ao63 t344.length co63 : Value).ownBlock) (.slice Ao63 t344.length co63) t344 t365 t367 t368 w _ ?side1 ?side2 A108.out).mono ?_); (case side1 => repeat (first | (with_reducible first | exact HB.out | apply below_alloc | apply pw_below_drewN | apply below_drew1 | refine below_set ?_ GE320.out | refine below_set ?_ GE321.out | refine below_set ?_ GE337.out | refine below_set ?_ GE342.out | refine below_set ?_ GE347.out | refine below_set ?_ GE353.out) | exact HB.out)); (case side2 => exact Kd.R_tight rfl HO_348001.out); rintro e w130 ⟨rfl, hy0, hb, hkp⟩; refine ⟨_, rfl, ?_⟩; have n0_ := zA (Kd.R_mono (ok' := fun k_ => some k_ ≠ (.slice Ao53 t339.length co53 : Value).ownBlock ∧ some k_ ≠ (.slice Ao63 t344.length co63 : Value).ownBlock ∧ some k_ ≠ (.slice Ao73 t349.length co73 : Value).ownBlock ∧ some k_ ≠ (.slice Ao112 t356.length co112 : Value).ownBlock ∧ some k_ ≠ (.slice Ao116 t361.length co116 : Value).ownBlock) (Kd.R_keptB (HO_338001.out) hkp (fun k_ hk_ hs_ => (hk_.2.1) hs_)) (fun k_ hk_ => ⟨hk_.1.1, hk_.1.2.1, hk_.1.2.2.1, hk_.1.2.2.2.1, hk_.1.2.2.2.2⟩)); have n1_ := zA (Kd.R_mono (ok' := fun k_ => some k_ ≠ (.slice Ao43 t333.length co43 : Value).ownBlock ∧ some k_ ≠ (.slice Ao63 t344.length co63 : Value).ownBlock ∧ some k_ ≠ (.slice Ao73 t349.length co73 : Value).ownBlock ∧ some k_ ≠ (.slice Ao112 t356.length co112 : Value).ownBlock ∧ some k_ ≠ (.slice Ao116 t361.length co116 : Value).ownBlock) (Kd.R_keptB (HO_343001.out) hkp (fun k_ hk_ hs_ => (hk_.1.1.2.1) hs_)) (fun k_ hk_ => ⟨hk_.1.1.1.1, hk_.1.1.1.2.1, hk_.1.1.1.2.2, hk_.1.1.2, hk_.1.2⟩)); have n2_ := zA (Kd.R_reok rfl hy0 (fun k_ e_ => HO_348001.out.1 k_ e_)); have n3_ := zA (Kd.R_mono (ok' := fun k_ => some k_ ≠ (.slice Ao43 t333.length co43 : Value).ownBlock ∧ some k_ ≠ (.slice Ao53 t339.length co53 : Value).ownBlock ∧ some k_ ≠ (.slice Ao63 t344.length co63 : Value).ownBlock ∧ some k_ ≠ (.slice Ao112 t356.length co112 : Value).ownBlock ∧ some k_ ≠ (.slice Ao116 t361.length co116 : Value).ownBlock) (Kd.R_keptB (HO_354001.out) hkp (fun k_ hk_ hs_ => (hk_.2.2.1) hs_)) (fun k_ hk_ => ⟨hk_.1.1, hk_.1.2.1, hk_.1.2.2.1, hk_.1.2.2.2.1, hk_.1.2.2.2.2⟩)); have n4_ := zA (blk_kept (uB BK320.out) hkp (fun hs_ => (fun e_ => (Kd.R_ne HO_348001.out BK320.out (by decide)) e_) hs_)); have n5_ := zA (blk_kept (uB BK321.out) hkp (fun hs_ => (fun e_ => (Kd.R_ne HO_348001.out BK321.out (by decide)) e_) hs_)); have n6_ := zA (blk_kept (uB BK337.out) hkp (fun hs_ => (fun e_ => (Kd.R_ne HO_348001.out BK337.out (by decide)) e_) hs_)); have n7_ := zA (blk_kept (uB BK342.out) hkp (fun hs_ => (fun e_ => (Kd.R_ne HO_348001.out BK342.out (by decide)) e_) hs_)); have n8_ := zA (blk_kept (uB BK347.out) hkp (fun hs_ => (fun e_ => (Kd.R_ne HO_348001.out BK347.out (by decide)) e_) hs_)); have n9_ := zA (blk_kept (uB BK353.out) hkp (fun hs_ => (fun e_ => (Kd.R_ne HO_348001.out BK353.out (by decide)) e_) hs_)); have n10_ := zA (Kd.R_mono (ok' := fun k_ => some k_ ≠ (.slice Ao43 t333.length co43 : Value).ownBlock ∧ some k_ ≠ (.slice Ao53 t339.length co53 : Value).ownBlock ∧ some k_ ≠ (.slice Ao63 t344.length co63 : Value).ownBlock ∧ some k_ ≠ (.slice Ao73 t349.length co73 : Value).ownBlock ∧ some k_ ≠ (.slice Ao116 t361.length co116 : Value).ownBlock) (Kd.R_keptB (HO358.out) hkp (fun k_ hk_ hs_ => (hk_.2.2.1) hs_)) (fun k_ hk_ => ⟨hk_.1.1, hk_.1.2.1, hk_.1.2.2.1, hk_.1.2.2.2.1, hk_.1.2.2.2.2⟩)); have n11_ := zA (Kd.R_mono (ok' := fun k_ => some k_ ≠ (.slice Ao43 t333.length co43 : Value).ownBlock ∧ some k_ ≠ (.slice Ao53 t339.length co53 : Value).ownBlock ∧ some k_ ≠ (.slice Ao63 t344.length co63 : Value).ownBlock ∧ some k_ ≠ (.slice Ao73 t349.length co73 : Value).ownBlock ∧ some k_ ≠ (.slice Ao112 t356.length co112 : Value).ownBlock) (Kd.R_keptB (HO363.out) hkp (fun k_ hk_ hs_ => (hk_.2.2.1) hs_)) (fun k_ hk_ => ⟨hk_.1.1, hk_.1.2.1, hk_.1.2.2.1, hk_.1.2.2.2.1, hk_.1.2.2.2.2⟩)); have n12_ := zA (hb); clear HO_338001 HO_343001 HO_348001 HO_354001 BK320 BK321 BK337 BK342 BK347 BK353 HO358 HO363 HB; have HO_338001 := n0_; have HO_343001 := n1_; have HO_348001 := n2_; have HO_354001 := n3_; have BK320 := n4_; have BK321 := n5_; have BK337 := n6_; have BK342 := n7_; have BK347 := n8_; have BK353 := n9_; have HO358 := n10_; have HO363 := n11_; have HB := n12_; clear n0_ n1_ n2_ n3_ n4_ n5_ n6_ n7_ n8_ n9_ n10_ n11_ n12_; (try clear hb); (try clear hkp); (try clear hy0)))
        (try simp only [Act.put, List.setIfInBounds_toArray, List.set_cons_zero, List.set_cons_succ])
        go_cut [86] (fun v86 wc => ∃ (kq : Nat) (x86_108 : Bool), v86 = .bool x86_108 ∧ Aside0 (laws_FnExactAddMoments.j1 kq a2 t336 x86_108 a0_0 l0_1 a1_0 l1_1 t332 t333 t348 t349 = some r) ∧ Aside0 (kq ≤ kj25) ∧ Aside0 (Kd.R (Kd.int .i64) 2 wc w.heap.size (fun k_ => some k_ ≠ ((.slice Ao53 t339.length co53) : Value).ownBlock ∧ some k_ ≠ ((.slice Ao63 t344.length co63) : Value).ownBlock ∧ some k_ ≠ ((.slice Ao73 t349.length co73) : Value).ownBlock) (.slice Ao43 t333.length co43) t333) ∧ Aside0 (Kd.R (Kd.int .i64) 2 wc w.heap.size (fun k_ => some k_ ≠ ((.slice Ao43 t333.length co43) : Value).ownBlock ∧ some k_ ≠ ((.slice Ao63 t344.length co63) : Value).ownBlock ∧ some k_ ≠ ((.slice Ao73 t349.length co73) : Value).ownBlock) (.slice Ao53 t339.length co53) t366) ∧ Aside0 (Kd.R (Kd.int .i64) 2 wc w.heap.size (fun k_ => some k_ ≠ ((.slice Ao43 t333.length co43) : Value).ownBlock ∧ some k_ ≠ ((.slice Ao53 t339.length co53) : Value).ownBlock ∧ some k_ ≠ ((.slice Ao73 t349.length co73) : Value).ownBlock) (.slice Ao63 t344.length co63) t368) ∧ Aside0 (Kd.R (Kd.int .i64) 2 wc w.heap.size (fun k_ => some k_ ≠ ((.slice Ao43 t333.length co43) : Value).ownBlock ∧ some k_ ≠ ((.slice Ao53 t339.length co53) : Value).ownBlock ∧ some k_ ≠ ((.slice Ao63 t344.length co63) : Value).ownBlock) (.slice Ao73 t349.length co73) t349) ∧ Aside0 (wc.heap[gb320]? = some (.cells #[.int .i64 a0_0, (.slice A0_1 l0_1.length c0_1)] 32 (0, 0))) ∧ Aside0 (wc.heap[gb321]? = some (.cells #[.int .i64 a1_0, (.slice A1_1 l1_1.length c1_1)] 32 (0, 0))) ∧ Aside0 (wc.heap[gb337]? = some (.cells #[.int .i64 t332, (.slice Ao43 t333.length co43)] 36 (0, 0))) ∧ Aside0 (wc.heap[gb342]? = some (.cells #[.int .i64 t338, (.slice Ao53 t339.length co53)] 36 (0, 0))) ∧ Aside0 (wc.heap[gb347]? = some (.cells #[.int .i64 t343, (.slice Ao63 t344.length co63)] 36 (0, 0))) ∧ Aside0 (wc.heap[gb353]? = some (.cells #[.int .i64 t348, (.slice Ao73 t349.length co73)] 36 (0, 0))) ∧ Aside0 (Below w.heap.size w wc))
        case first =>
         have H := HC109.out
         clear HC109
         by_cases c131 : t367 < 0
         ·rw [if_pos c131] at H
          have c131b0 : decide (t367 < 0) = true := decide_eq_true c131
          clear c131
          (first | rw [c131b0] | (simp only [i64_w, i32_w]; rw [c131b0]) | skip)
          have H' := zA H
          clear H
          go_wp2
          go_meet
          case rel => exact ⟨_, (true), (by first | rfl | (simp; done) | (simp [*]; done)), H', ⟨by have := HJ25.out; first | omega | exact Nat.le_refl _⟩, ⟨uR (Kd.R_mono HO_338001.out (fun _ hk => ⟨hk.1, ⟨hk.2.1, hk.2.2.1⟩⟩))⟩, ⟨uR (Kd.R_mono HO_343001.out (fun _ hk => ⟨hk.1, ⟨hk.2.1, hk.2.2.1⟩⟩))⟩, ⟨uR (Kd.R_mono HO_348001.out (fun _ hk => ⟨hk.1, ⟨hk.2.1, hk.2.2.1⟩⟩))⟩, ⟨uR (Kd.R_mono HO_354001.out (fun _ hk => ⟨hk.1, ⟨hk.2.1, hk.2.2.1⟩⟩))⟩, ⟨uB BK320.out⟩, ⟨uB BK321.out⟩, ⟨uB BK337.out⟩, ⟨uB BK342.out⟩, ⟨uB BK347.out⟩, ⟨uB BK353.out⟩, ⟨uH HB.out⟩⟩
         ·rw [if_neg c131] at H
          have c131b0 : decide (t367 < 0) = false := decide_eq_false c131
          clear c131
          (first | rw [c131b0] | (simp only [i64_w, i32_w]; rw [c131b0]) | skip)
          replace H := Option.bind_eq_some_iff.mp H
          obtain ⟨t369, A1320, H⟩ := H
          replace H : (if t369 = true then (laws_FnExactAddMoments.j1 kj25 a2 t336 (t352 != t336) a0_0 l0_1 a1_0 l1_1 t332 t333 t348 t349) else (laws_FnExactAddMoments.j1 kj25 a2 t336 true a0_0 l0_1 a1_0 l1_1 t332 t333 t348 t349)) = some r := H
          have A132 := zA A1320
          clear A1320
          by_cases c133 : t369 = true
          ·subst c133
           have H1 : (laws_FnExactAddMoments.j1 kj25 a2 t336 (t352 != t336) a0_0 l0_1 a1_0 l1_1 t332 t333 t348 t349) = some r := by rw [if_pos rfl] at H; exact H
           clear H
           have H := H1
           clear H1
           have H' := zA H
           clear H
           have hnb134 := NB353_320.out; have hnc134 := NB320_353.out; have hnb135 := NB353_321.out; have hnc135 := NB321_353.out; have hnb136 := NB353_337.out; have hnc136 := NB337_353.out; have hnb137 := NB353_342.out; have hnc137 := NB342_353.out; have hnb138 := NB353_347.out; have hnc138 := NB347_353.out
           have hcz139_0 : w130.cell? ⟨gb353, 0, none⟩ = some (.int .i64 t348) := (blk_cell BK353.out 0).trans rfl
           have hcz139_1 : w130.cell? ⟨gb353, 1, none⟩ = some (.slice Ao73 t349.length co73) := (blk_cell BK353.out 1).trans rfl
           have hfz139_0 := blk_frozen BK353.out 0
           have hfz139_1 := blk_frozen BK353.out 1
           have hnb140 := NB337_320.out; have hnc140 := NB320_337.out; have hnb141 := NB337_321.out; have hnc141 := NB321_337.out; have hnb142 := NB337_342.out; have hnc142 := NB342_337.out; have hnb143 := NB337_347.out; have hnc143 := NB347_337.out
           have hcz144_0 : w130.cell? ⟨gb337, 0, none⟩ = some (.int .i64 t332) := (blk_cell BK337.out 0).trans rfl
           have hcz144_1 : w130.cell? ⟨gb337, 1, none⟩ = some (.slice Ao43 t333.length co43) := (blk_cell BK337.out 1).trans rfl
           have hfz144_0 := blk_frozen BK337.out 0
           have hfz144_1 := blk_frozen BK337.out 1
           go_wp2_with (first | (go_at_call 19; (with_reducible refine (laws_eqMoments.calls kj25 t348 _ _ t349 t332 _ _ t333 true _ ?side1 ?side2 ?side3 ?side4 A132.out).mono ?_); (case side1 => exact uC ((Kd.R_reads' HO_354001.out).2.2)); (case side2 => exact (Kd.R_reads' HO_354001.out).2.1); (case side3 => exact uC ((Kd.R_reads' HO_338001.out).2.2)); (case side4 => exact (Kd.R_reads' HO_338001.out).2.1); rintro e w145 ⟨rfl, hb⟩; have n0_ := xR HO_338001 hb; have n1_ := xR HO_343001 hb; have n2_ := xR HO_348001 hb; have n3_ := xR HO_354001 hb; have n4_ := xR HO358 hb; have n5_ := xR HO363 hb; have n6_ := xB BK320 hb; have n7_ := xB BK321 hb; have n8_ := xB BK337 hb; have n9_ := xB BK342 hb; have n10_ := xB BK347 hb; have n11_ := xB BK353 hb; have n12_ := xH HB hb; clear HO_338001 HO_343001 HO_348001 HO_354001 HO358 HO363 BK320 BK321 BK337 BK342 BK347 BK353 HB; have HO_338001 := n0_; have HO_343001 := n1_; have HO_348001 := n2_; have HO_354001 := n3_; have HO358 := n4_; have HO363 := n5_; have BK320 := n6_; have BK321 := n7_; have BK337 := n8_; have BK342 := n9_; have BK347 := n10_; have BK353 := n11_; have HB := n12_; clear n0_ n1_ n2_ n3_ n4_ n5_ n6_ n7_ n8_ n9_ n10_ n11_ n12_; (try clear hb); (try clear hb2); (try clear hk); (try clear hi)))
           go_meet
           case rel => exact ⟨_, ((t352 != t336)), (by first | rfl | (simp; done) | (simp [*]; done)), H', ⟨by have := HJ25.out; first | omega | exact Nat.le_refl _⟩, ⟨uR (Kd.R_mono HO_338001.out (fun _ hk => ⟨hk.1, ⟨hk.2.1, hk.2.2.1⟩⟩))⟩, ⟨uR (Kd.R_mono HO_343001.out (fun _ hk => ⟨hk.1, ⟨hk.2.1, hk.2.2.1⟩⟩))⟩, ⟨uR (Kd.R_mono HO_348001.out (fun _ hk => ⟨hk.1, ⟨hk.2.1, hk.2.2.1⟩⟩))⟩, ⟨uR (Kd.R_mono HO_354001.out (fun _ hk => ⟨hk.1, ⟨hk.2.1, hk.2.2.1⟩⟩))⟩, ⟨uB BK320.out⟩, ⟨uB BK321.out⟩, ⟨uB BK337.out⟩, ⟨uB BK342.out⟩, ⟨uB BK347.out⟩, ⟨uB BK353.out⟩, ⟨uH HB.out⟩⟩
          ·replace c133 := Bool.eq_false_iff.mpr c133
           subst c133
           have H1 : (laws_FnExactAddMoments.j1 kj25 a2 t336 true a0_0 l0_1 a1_0 l1_1 t332 t333 t348 t349) = some r := by rw [if_neg (show ¬ (false = true) by decide)] at H; exact H
           clear H
           have H := H1
           clear H1
           have H' := zA H
           clear H
           have hnb146 := NB353_320.out; have hnc146 := NB320_353.out; have hnb147 := NB353_321.out; have hnc147 := NB321_353.out; have hnb148 := NB353_337.out; have hnc148 := NB337_353.out; have hnb149 := NB353_342.out; have hnc149 := NB342_353.out; have hnb150 := NB353_347.out; have hnc150 := NB347_353.out
           have hcz151_0 : w130.cell? ⟨gb353, 0, none⟩ = some (.int .i64 t348) := (blk_cell BK353.out 0).trans rfl
           have hcz151_1 : w130.cell? ⟨gb353, 1, none⟩ = some (.slice Ao73 t349.length co73) := (blk_cell BK353.out 1).trans rfl
           have hfz151_0 := blk_frozen BK353.out 0
           have hfz151_1 := blk_frozen BK353.out 1
           have hnb152 := NB337_320.out; have hnc152 := NB320_337.out; have hnb153 := NB337_321.out; have hnc153 := NB321_337.out; have hnb154 := NB337_342.out; have hnc154 := NB342_337.out; have hnb155 := NB337_347.out; have hnc155 := NB347_337.out
           have hcz156_0 : w130.cell? ⟨gb337, 0, none⟩ = some (.int .i64 t332) := (blk_cell BK337.out 0).trans rfl
           have hcz156_1 : w130.cell? ⟨gb337, 1, none⟩ = some (.slice Ao43 t333.length co43) := (blk_cell BK337.out 1).trans rfl
           have hfz156_0 := blk_frozen BK337.out 0
           have hfz156_1 := blk_frozen BK337.out 1
           go_wp2_with (first | (go_at_call 19; (with_reducible refine (laws_eqMoments.calls kj25 t348 _ _ t349 t332 _ _ t333 false _ ?side1 ?side2 ?side3 ?side4 A132.out).mono ?_); (case side1 => exact uC ((Kd.R_reads' HO_354001.out).2.2)); (case side2 => exact (Kd.R_reads' HO_354001.out).2.1); (case side3 => exact uC ((Kd.R_reads' HO_338001.out).2.2)); (case side4 => exact (Kd.R_reads' HO_338001.out).2.1); rintro e w157 ⟨rfl, hb⟩; have n0_ := xR HO_338001 hb; have n1_ := xR HO_343001 hb; have n2_ := xR HO_348001 hb; have n3_ := xR HO_354001 hb; have n4_ := xR HO358 hb; have n5_ := xR HO363 hb; have n6_ := xB BK320 hb; have n7_ := xB BK321 hb; have n8_ := xB BK337 hb; have n9_ := xB BK342 hb; have n10_ := xB BK347 hb; have n11_ := xB BK353 hb; have n12_ := xH HB hb; clear HO_338001 HO_343001 HO_348001 HO_354001 HO358 HO363 BK320 BK321 BK337 BK342 BK347 BK353 HB; have HO_338001 := n0_; have HO_343001 := n1_; have HO_348001 := n2_; have HO_354001 := n3_; have HO358 := n4_; have HO363 := n5_; have BK320 := n6_; have BK321 := n7_; have BK337 := n8_; have BK342 := n9_; have BK347 := n10_; have BK353 := n11_; have HB := n12_; clear n0_ n1_ n2_ n3_ n4_ n5_ n6_ n7_ n8_ n9_ n10_ n11_ n12_; (try clear hb); (try clear hb2); (try clear hk); (try clear hi)))
           go_meet
           case rel => exact ⟨_, (true), (by first | rfl | (simp; done) | (simp [*]; done)), H', ⟨by have := HJ25.out; first | omega | exact Nat.le_refl _⟩, ⟨uR (Kd.R_mono HO_338001.out (fun _ hk => ⟨hk.1, ⟨hk.2.1, hk.2.2.1⟩⟩))⟩, ⟨uR (Kd.R_mono HO_343001.out (fun _ hk => ⟨hk.1, ⟨hk.2.1, hk.2.2.1⟩⟩))⟩, ⟨uR (Kd.R_mono HO_348001.out (fun _ hk => ⟨hk.1, ⟨hk.2.1, hk.2.2.1⟩⟩))⟩, ⟨uR (Kd.R_mono HO_354001.out (fun _ hk => ⟨hk.1, ⟨hk.2.1, hk.2.2.1⟩⟩))⟩, ⟨uB BK320.out⟩, ⟨uB BK321.out⟩, ⟨uB BK337.out⟩, ⟨uB BK342.out⟩, ⟨uB BK347.out⟩, ⟨uB BK353.out⟩, ⟨uH HB.out⟩⟩
        case rest =>
         clear HC109
         try clear c1
         try clear c2
         try clear p2
         try clear c7
         try clear c8
         try clear c9
         try clear c10
         try clear c11
         try clear c12
         try clear c13
         try clear c14
         try clear c15
         try clear c16
         try clear c19
         try clear c23
         try clear c75
         try clear c76
         try clear c77
         try clear c78
         try clear c79
         try clear c80
         try clear c82
         try clear c83
         try clear c84
         try clear c85
         try clear c88
         try clear c89
         try clear c90
         try clear c91
         try clear c92
         try clear c94
         try clear c95
         try clear c96
         try clear c97
         try clear c100
         try clear c103
         try clear c106
         try clear c118
         try clear c119
         try clear c120
         try clear c121
         try clear c122
         try clear c125
         try clear c126
         try clear c127
         try clear c128
         try clear c131
         try clear c131b0
         try clear c133
         try clear c134
         try clear c135
         try clear c136
         try clear c137
         try clear c138
         try clear c140
         try clear c141
         try clear c142
         try clear c143
         try clear c146
         try clear c147
         try clear c148
         try clear c149
         try clear c150
         try clear c152
         try clear c153
         try clear c154
         try clear c155
         try clear hcz123_0
         try clear hcz123_1
         try clear hcz129_0
         try clear hcz129_1
         try clear hcz139_0
         try clear hcz139_1
         try clear hcz144_0
         try clear hcz144_1
         try clear hcz151_0
         try clear hcz151_1
         try clear hcz156_0
         try clear hcz156_1
         try clear hcz46_0
         try clear hcz46_1
         try clear hcz52_0
         try clear hcz52_1
         try clear hcz55_0
         try clear hcz55_1
         try clear hcz62_0
         try clear hcz62_1
         try clear hcz64_0
         try clear hcz64_1
         try clear hcz72_0
         try clear hcz72_1
         try clear hcz81_0
         try clear hcz81_1
         try clear hcz86_0
         try clear hcz86_1
         try clear hcz93_0
         try clear hcz93_1
         try clear hcz98_0
         try clear hcz98_1
         try clear hfz123_0
         try clear hfz123_1
         try clear hfz129_0
         try clear hfz129_1
         try clear hfz139_0
         try clear hfz139_1
         try clear hfz144_0
         try clear hfz144_1
         try clear hfz151_0
         try clear hfz151_1
         try clear hfz156_0
         try clear hfz156_1
         try clear hfz46_0
         try clear hfz46_1
         try clear hfz52_0
         try clear hfz52_1
         try clear hfz55_0
         try clear hfz55_1
         try clear hfz62_0
         try clear hfz62_1
         try clear hfz64_0
         try clear hfz64_1
         try clear hfz72_0
         try clear hfz72_1
         try clear hfz81_0
         try clear hfz81_1
         try clear hfz86_0
         try clear hfz86_1
         try clear hfz93_0
         try clear hfz93_1
         try clear hfz98_0
         try clear hfz98_1
         obtain ⟨kq, x86_108, rfl, HA, HJ108, HO_338001, HO_343001, HO_348001, HO_354001, BK320, BK321, BK337, BK342, BK347, BK353, HB⟩ := hcut
         have hl343001_108 := (Kd.R_reads' HO_343001.out).1
         rw [hl343001_108] at HO_343001
         (try simp only [hl343001_108])
         (try simp only [hl343001_108] at BK320)
         (try simp only [hl343001_108] at BK321)
         (try simp only [hl343001_108] at BK337)
         (try simp only [hl343001_108] at BK342)
         (try simp only [hl343001_108] at BK347)
         (try simp only [hl343001_108] at BK353)
         (try simp only [hl343001_108] at HO_338001)
         (try simp only [hl343001_108] at HO_348001)
         (try simp only [hl343001_108] at HO_354001)
         have hl348001_108 := (Kd.R_reads' HO_348001.out).1
         rw [hl348001_108] at HO_348001
         (try simp only [hl348001_108])
         (try simp only [hl348001_108] at BK320)
         (try simp only [hl348001_108] at BK321)
         (try simp only [hl348001_108] at BK337)
         (try simp only [hl348001_108] at BK342)
         (try simp only [hl348001_108] at BK347)
         (try simp only [hl348001_108] at BK353)
         (try simp only [hl348001_108] at HO_338001)
         (try simp only [hl348001_108] at HO_343001)
         (try simp only [hl348001_108] at HO_354001)
         cases kq with
         | zero => exact absurd HA.out (by simp [laws_FnExactAddMoments.j1])
         | succ kj108 =>
          have H := HA.out
          clear HA
          simp only [laws_FnExactAddMoments.j1] at H
          by_cases c158 : x86_108 = true
          ·subst c158
           have H1 : (some false) = some r := by rw [if_pos rfl] at H; exact H
           clear H
           have H := H1
           clear H1
           rw [HRT.out] at H
           exact absurd H (by simp)
          ·replace c158 := Bool.eq_false_iff.mpr c158
           subst c158
           have H1 : ((laws_markMoments.f kj108 t348 t349 1).bind fun bt370 => ((laws_heldMoments.f kj108 t348 bt370.2 1).bind fun t372 => (if t372 < 0 then (some false) else (if t372 = bt370.1 then ((laws_toMoments.f kj108 a0_0 l0_1).bind fun bt373 => ((laws_toMoments.f kj108 a1_0 l1_1).bind fun bt377 => ((impl_AddMoments.f kj108 bt373.1 bt373.2 bt377.1 bt377.2 a2).bind fun bt381 => ((laws_eqMoments.f kj108 bt381.1 bt381.2.1 t332 t333).bind fun t387 => (if t387 = true then (laws_FnExactAddMoments.j2 kj108 bt370.1 (bt381.2.2 != t336) t348 bt370.2) else (laws_FnExactAddMoments.j2 kj108 bt370.1 true t348 bt370.2)))))) else (some false))))) = some r := by rw [if_neg (show ¬ (false = true) by decide)] at H; exact H
           clear H
           have H := H1
           clear H1
           replace H := Option.bind_eq_some_iff.mp H
           obtain ⟨⟨t370, t371⟩, A1590, H⟩ := H
           replace H : ((laws_heldMoments.f kj108 t348 t371 1).bind fun t372 => (if t372 < 0 then (some false) else (if t372 = t370 then ((laws_toMoments.f kj108 a0_0 l0_1).bind fun bt373 => ((laws_toMoments.f kj108 a1_0 l1_1).bind fun bt377 => ((impl_AddMoments.f kj108 bt373.1 bt373.2 bt377.1 bt377.2 a2).bind fun bt381 => ((laws_eqMoments.f kj108 bt381.1 bt381.2.1 t332 t333).bind fun t387 => (if t387 = true then (laws_FnExactAddMoments.j2 kj108 t370 (bt381.2.2 != t336) t348 t371) else (laws_FnExactAddMoments.j2 kj108 t370 true t348 t371)))))) else (some false)))) = some r := H
           have A159 := zA A1590
           clear A1590
           replace H := Option.bind_eq_some_iff.mp H
           obtain ⟨t372, A1600, H⟩ := H
           replace H : (if t372 < 0 then (some false) else (if t372 = t370 then ((laws_toMoments.f kj108 a0_0 l0_1).bind fun bt373 => ((laws_toMoments.f kj108 a1_0 l1_1).bind fun bt377 => ((impl_AddMoments.f kj108 bt373.1 bt373.2 bt377.1 bt377.2 a2).bind fun bt381 => ((laws_eqMoments.f kj108 bt381.1 bt381.2.1 t332 t333).bind fun t387 => (if t387 = true then (laws_FnExactAddMoments.j2 kj108 t370 (bt381.2.2 != t336) t348 t371) else (laws_FnExactAddMoments.j2 kj108 t370 true t348 t371)))))) else (some false))) = some r := H
           have A160 := zA A1600
           clear A1600
           by_cases c161 : t372 < 0
           ·rw [if_pos c161] at H
            have c161b0 : decide (t372 < 0) = true := decide_eq_true c161
            clear c161
            rw [HRT.out] at H
            exact absurd H (by simp)
           ·rw [if_neg c161] at H
            have c161b0 : decide (t372 < 0) = false := decide_eq_false c161
            clear c161
            by_cases c162 : t372 = t370
            ·rw [if_pos c162] at H
             have c162b0 : (t372 == t370) = true := beq_iff_eq.mpr c162
             have c162b1 : (t372 != t370) = false := bne_eq_false_iff_eq.mpr c162
             clear c162
             replace H := Option.bind_eq_some_iff.mp H
             obtain ⟨⟨t373, t374⟩, A1630, H⟩ := H
             replace H : ((laws_toMoments.f kj108 a1_0 l1_1).bind fun bt377 => ((impl_AddMoments.f kj108 t373 t374 bt377.1 bt377.2 a2).bind fun bt381 => ((laws_eqMoments.f kj108 bt381.1 bt381.2.1 t332 t333).bind fun t387 => (if t387 = true then (laws_FnExactAddMoments.j2 kj108 t370 (bt381.2.2 != t336) t348 t371) else (laws_FnExactAddMoments.j2 kj108 t370 true t348 t371))))) = some r := H
             have A163 := zA A1630
             clear A1630
             replace H := Option.bind_eq_some_iff.mp H
             obtain ⟨⟨t377, t378⟩, A1640, H⟩ := H
             replace H : ((impl_AddMoments.f kj108 t373 t374 t377 t378 a2).bind fun bt381 => ((laws_eqMoments.f kj108 bt381.1 bt381.2.1 t332 t333).bind fun t387 => (if t387 = true then (laws_FnExactAddMoments.j2 kj108 t370 (bt381.2.2 != t336) t348 t371) else (laws_FnExactAddMoments.j2 kj108 t370 true t348 t371)))) = some r := H
             have A164 := zA A1640
             clear A1640
             replace H := Option.bind_eq_some_iff.mp H
             obtain ⟨⟨t381, t382, t385⟩, A1650, H⟩ := H
             replace H : ((laws_eqMoments.f kj108 t381 t382 t332 t333).bind fun t387 => (if t387 = true then (laws_FnExactAddMoments.j2 kj108 t370 (t385 != t336) t348 t371) else (laws_FnExactAddMoments.j2 kj108 t370 true t348 t371))) = some r := H
             have A165 := zA A1650
             clear A1650
             have HC166 := zA H
             clear H
             have hnb167 := NB353_320.out; have hnc167 := NB320_353.out; have hnb168 := NB353_321.out; have hnc168 := NB321_353.out; have hnb169 := NB353_337.out; have hnc169 := NB337_353.out; have hnb170 := NB353_342.out; have hnc170 := NB342_353.out; have hnb171 := NB353_347.out; have hnc171 := NB347_353.out
             have hcz172_0 : wc.cell? ⟨gb353, 0, none⟩ = some (.int .i64 t348) := (blk_cell BK353.out 0).trans rfl
             have hcz172_1 : wc.cell? ⟨gb353, 1, none⟩ = some (.slice Ao73 t349.length co73) := (blk_cell BK353.out 1).trans rfl
             have hfz172_0 := blk_frozen BK353.out 0
             have hfz172_1 := blk_frozen BK353.out 1
             try go_wp2_with (first | ((with_reducible refine gate_callee (f := 23) rfl ?_); refine goesL_ (some 89) rfl rfl Try.func23 (by kernel_rfl) rfl #[.agg #[.int .i64 t348, .slice Ao73 t349.length co73], .int .i64 1] rfl (by (try simp only [List.map_toArray, List.map_cons, List.map_nil]); first | done | rfl | (simp only [List.length_drop, List.length_take]; rfl)) ?_; (with_reducible refine (laws_markMoments.calls kj108 t348 (fun k_ => some k_ = (.slice Ao73 t349.length co73 : Value).ownBlock) (.slice Ao73 t349.length co73) t349 1 t370 t371 w _ ?side1 ?side2 A159.out).mono ?_); (case side1 => repeat (first | (with_reducible first | exact HB.out | apply below_alloc | apply pw_below_drewN | apply below_drew1 | refine below_set ?_ GE320.out | refine below_set ?_ GE321.out | refine below_set ?_ GE337.out | refine below_set ?_ GE342.out | refine below_set ?_ GE347.out | refine below_set ?_ GE353.out) | exact HB.out)); (case side2 => exact Kd.R_tight rfl HO_354001.out); rintro e w173 ⟨rfl, hy0, hb, hkp⟩; refine ⟨_, rfl, ?_⟩; have n0_ := zA (Kd.R_mono (ok' := fun k_ => some k_ ≠ (.slice Ao53 t366.length co53 : Value).ownBlock ∧ some k_ ≠ (.slice Ao63 t368.length co63 : Value).ownBlock ∧ some k_ ≠ (.slice Ao73 t349.length co73 : Value).ownBlock) (Kd.R_keptB (HO_338001.out) hkp (fun k_ hk_ hs_ => (hk_.2.2) hs_)) (fun k_ hk_ => ⟨hk_.1.1, hk_.1.2.1, hk_.1.2.2⟩)); have n1_ := zA (Kd.R_mono (ok' := fun k_ => some k_ ≠ (.slice Ao43 t333.length co43 : Value).ownBlock ∧ some k_ ≠ (.slice Ao63 t368.length co63 : Value).ownBlock ∧ some k_ ≠ (.slice Ao73 t349.length co73 : Value).ownBlock) (Kd.R_keptB (HO_343001.out) hkp (fun k_ hk_ hs_ => (hk_.2.2) hs_)) (fun k_ hk_ => ⟨hk_.1.1, hk_.1.2.1, hk_.1.2.2⟩)); have n2_ := zA (Kd.R_mono (ok' := fun k_ => some k_ ≠ (.slice Ao43 t333.length co43 : Value).ownBlock ∧ some k_ ≠ (.slice Ao53 t366.length co53 : Value).ownBlock ∧ some k_ ≠ (.slice Ao73 t349.length co73 : Value).ownBlock) (Kd.R_keptB (HO_348001.out) hkp (fun k_ hk_ hs_ => (hk_.2.2) hs_)) (fun k_ hk_ => ⟨hk_.1.1, hk_.1.2.1, hk_.1.2.2⟩)); have n3_ := zA (Kd.R_reok rfl hy0 (fun k_ e_ => HO_354001.out.1 k_ e_)); have n4_ := zA (blk_kept (uB BK320.out) hkp (fun hs_ => (fun e_ => (Kd.R_ne HO_354001.out BK320.out (by decide)) e_) hs_)); have n5_ := zA (blk_kept (uB BK321.out) hkp (fun hs_ => (fun e_ => (Kd.R_ne HO_354001.out BK321.out (by decide)) e_) hs_)); have n6_ := zA (blk_kept (uB BK337.out) hkp (fun hs_ => (fun e_ => (Kd.R_ne HO_354001.out BK337.out (by decide)) e_) hs_)); have n7_ := zA (blk_kept (uB BK342.out) hkp (fun hs_ => (fun e_ => (Kd.R_ne HO_354001.out BK342.out (by decide)) e_) hs_)); have n8_ := zA (blk_kept (uB BK347.out) hkp (fun hs_ => (fun e_ => (Kd.R_ne HO_354001.out BK347.out (by decide)) e_) hs_)); have n9_ := zA (blk_kept (uB BK353.out) hkp (fun hs_ => (fun e_ => (Kd.R_ne HO_354001.out BK353.out (by decide)) e_) hs_)); have n10_ := zA (hb); clear HO_338001 HO_343001 HO_348001 HO_354001 BK320 BK321 BK337 BK342 BK347 BK353 HB; have HO_338001 := n0_; have HO_343001 := n1_; have HO_348001 := n2_; have HO_354001 := n3_; have BK320 := n4_; have BK321 := n5_; have BK337 := n6_; have BK342 := n7_; have BK347 := n8_; have BK353 := n9_; have HB := n10_; clear n0_ n1_ n2_ n3_ n4_ n5_ n6_ n7_ n8_ n9_ n10_; (try clear hb); (try clear hkp); (try clear hy0); have hcz174_0 : w173.cell? ⟨gb353, 0, none⟩ = some (.int .i64 t348) := (blk_cell BK353.out 0).trans rfl; have hcz174_1 : w173.cell? ⟨gb353, 1, none⟩ = some (.slice Ao73 t349.length co73) := (blk_cell BK353.out 1).trans rfl; have hfz174_0 := blk_frozen BK353.out 0; have hfz174_1 := blk_frozen BK353.out 1) | ((with_reducible refine gate_callee (f := 24) rfl ?_); refine goesL_ (some 92) rfl rfl Try.func24 (by kernel_rfl) rfl #[.agg #[.int .i64 t348, .slice Ao73 t371.length co73], .int .i64 1] rfl (by (try simp only [List.map_toArray, List.map_cons, List.map_nil]); first | done | (rw [show t371.length = t349.length from (Kd.R_reads' HO_354001.out).1.symm] <;> rfl) | rfl | (simp only [List.length_drop, List.length_take]; rfl)) ?_; (with_reducible refine (laws_heldMoments.calls kj108 t348 _ _ t371 1 t372 _ ?side1 ?side2 A160.out).mono ?_); (case side1 => exact uC ((Kd.R_reads' HO_354001.out).2.2)); (case side2 => rw [show t371.length = t349.length from (Kd.R_reads' HO_354001.out).1.symm]; exact (Kd.R_reads' HO_354001.out).2.1); rintro e w175 ⟨rfl, hb⟩; refine ⟨_, rfl, ?_⟩; have n0_ := xR HO_338001 hb; have n1_ := xR HO_343001 hb; have n2_ := xR HO_348001 hb; have n3_ := xR HO_354001 hb; have n4_ := xB BK320 hb; have n5_ := xB BK321 hb; have n6_ := xB BK337 hb; have n7_ := xB BK342 hb; have n8_ := xB BK347 hb; have n9_ := xB BK353 hb; have n10_ := xH HB hb; clear HO_338001 HO_343001 HO_348001 HO_354001 BK320 BK321 BK337 BK342 BK347 BK353 HB; have HO_338001 := n0_; have HO_343001 := n1_; have HO_348001 := n2_; have HO_354001 := n3_; have BK320 := n4_; have BK321 := n5_; have BK337 := n6_; have BK342 := n7_; have BK347 := n8_; have BK353 := n9_; have HB := n10_; clear n0_ n1_ n2_ n3_ n4_ n5_ n6_ n7_ n8_ n9_ n10_; (try clear hb); (try clear hb2); (try clear hk); (try clear hi)))
             have n0_ := zA (Kd.R_drew HO_338001.out)
             have n1_ := zA (Kd.R_drew HO_343001.out)
             have n2_ := zA (Kd.R_drew HO_348001.out)
             have n3_ := zA (Kd.R_drew HO_354001.out)
             have n4_ := zA (blk_drew BK320.out)
             have n5_ := zA (blk_drew BK321.out)
             have n6_ := zA (blk_drew BK337.out)
             have n7_ := zA (blk_drew BK342.out)
             have n8_ := zA (blk_drew BK347.out)
             have n9_ := zA (blk_drew BK353.out)
             have n10_ := zA (below_drew1 HB.out)
             clear HO_338001 HO_343001 HO_348001 HO_354001 BK320 BK321 BK337 BK342 BK347 BK353 HB
             have HO_338001 := n0_; have HO_343001 := n1_; have HO_348001 := n2_; have HO_354001 := n3_; have BK320 := n4_; have BK321 := n5_; have BK337 := n6_; have BK342 := n7_; have BK347 := n8_; have BK353 := n9_; have HB := n10_
             clear n0_ n1_ n2_ n3_ n4_ n5_ n6_ n7_ n8_ n9_ n10_
             refine start_ (n := 12) (S := fun w' => w'.cell? ⟨gb320, 0, none⟩ = some (.int .i64 a0_0) ∧ w'.cell? ⟨gb320, 1, none⟩ = some (.slice A0_1 l0_1.length c0_1) ∧ w'.cell? ⟨gb321, 0, none⟩ = some (.int .i64 a1_0) ∧ w'.cell? ⟨gb321, 1, none⟩ = some (.slice A1_1 l1_1.length c1_1)) (ds := []) #[false, false, false, false, false, false, false, false, false, false, false, false] (by kernel_rfl) rfl rfl ⟨(blk_cell BK320.out 0).trans rfl, (blk_cell BK320.out 1).trans rfl, (blk_cell BK321.out 0).trans rfl, (blk_cell BK321.out 1).trans rfl⟩ (fun hHeld => ?_); refine with_tabW laws_FnExactAddMoments.tab31 laws_FnExactAddMoments.bits31 (fun HT_ HW_ => ?_)
             generalize w175.drew = w176 at HO_338001 HO_343001 HO_348001 HO_354001 BK320 BK321 BK337 BK342 BK347 BK353 HB hHeld ⊢
             refine pure_ (i := 4) (N := some 103) (v := ?_) (a' := ?_) #[false, false, false, false, true, false, false, false, false, false, false, false] rfl rfl (any_of HT_.out (by kernel_rfl)) (fun _ _ _ h => h) (Or.inl ⟨by rfl, ?_⟩) ?_ ?_
             rotate_left
             ·intro w'
              go_simp
              with_reducible rfl
             rotate_left
             ·simp only [Act.put, List.setIfInBounds_toArray, List.set_cons_zero, List.set_cons_succ, i64_w, i32_w]
              rfl
             refine take_ (i := 0) (N := some 99) (v := ?_) (a' := ?_) #[true, false, false, false, true, false, false, false, false, false, false, false] rfl rfl (take_ofW HT_.out HW_.out (by kernel_rfl)) (fun _ _ _ h => h) (Or.inl ⟨by rfl, ?_⟩) hHeld ?_ ?_
             rotate_left
             ·rintro w' ⟨s0, s1, s2, s3⟩
              go_simp
              with_reducible rfl
             rotate_left
             ·simp only [Act.put, List.setIfInBounds_toArray, List.set_cons_zero, List.set_cons_succ, i64_w, i32_w]
              rfl
             refine take_ (i := 2) (N := some 101) (v := ?_) (a' := ?_) #[true, false, true, false, true, false, false, false, false, false, false, false] rfl rfl (take_ofW HT_.out HW_.out (by kernel_rfl)) (fun _ _ _ h => h) (Or.inl ⟨by rfl, ?_⟩) hHeld ?_ ?_
             rotate_left
             ·rintro w' ⟨s0, s1, s2, s3⟩
              go_simp
              with_reducible rfl
             rotate_left
             ·simp only [Act.put, List.setIfInBounds_toArray, List.set_cons_zero, List.set_cons_succ, i64_w, i32_w]
              rfl
             refine join_ (σ := Value × Value × Value × Nat) 2 #[true, true, true, true, true, true, true, true, true, true, false, false] (fun s_ => [(100, .agg #[.int .i64 t373, s_.1]), (102, .agg #[.int .i64 t377, s_.2.1]), (104, .tuple #[.agg #[.int .i64 t381, s_.2.2.1], .int .i64 t385]), (17, .pointer (some ⟨s_.2.2.2, 0, none⟩)), (98, .tuple #[.agg #[.int .i64 t381, s_.2.2.1], .int .i64 t385]), (105, .agg #[.int .i64 t381, s_.2.2.1]), (106, .int .i64 t385)]) (fun s_ w' => (w'.cell? ⟨gb320, 0, none⟩ = some (.int .i64 a0_0) ∧ w'.cell? ⟨gb320, 1, none⟩ = some (.slice A0_1 l0_1.length c0_1) ∧ w'.cell? ⟨gb321, 0, none⟩ = some (.int .i64 a1_0) ∧ w'.cell? ⟨gb321, 1, none⟩ = some (.slice A1_1 l1_1.length c1_1)) ∧ (Kd.R (Kd.int .i64) 2 w' w.heap.size (fun k_ => some k_ ≠ (s_.2.1 : Value).ownBlock ∧ some k_ ≠ (s_.2.2.1 : Value).ownBlock ∧ some k_ ≠ (.slice Ao43 t333.length co43 : Value).ownBlock ∧ some k_ ≠ (.slice Ao53 t366.length co53 : Value).ownBlock ∧ some k_ ≠ (.slice Ao63 t368.length co63 : Value).ownBlock ∧ some k_ ≠ (.slice Ao73 t349.length co73 : Value).ownBlock) s_.1 t374) ∧ (Kd.R (Kd.int .i64) 2 w' w.heap.size (fun k_ => some k_ ≠ (s_.1 : Value).ownBlock ∧ some k_ ≠ (s_.2.2.1 : Value).ownBlock ∧ some k_ ≠ (.slice Ao43 t333.length co43 : Value).ownBlock ∧ some k_ ≠ (.slice Ao53 t366.length co53 : Value).ownBlock ∧ some k_ ≠ (.slice Ao63 t368.length co63 : Value).ownBlock ∧ some k_ ≠ (.slice Ao73 t349.length co73 : Value).ownBlock) s_.2.1 t378) ∧ (Kd.R (Kd.int .i64) 2 w' w.heap.size (fun k_ => some k_ ≠ (s_.1 : Value).ownBlock ∧ some k_ ≠ (s_.2.1 : Value).ownBlock ∧ some k_ ≠ (.slice Ao43 t333.length co43 : Value).ownBlock ∧ some k_ ≠ (.slice Ao53 t366.length co53 : Value).ownBlock ∧ some k_ ≠ (.slice Ao63 t368.length co63 : Value).ownBlock ∧ some k_ ≠ (.slice Ao73 t349.length co73 : Value).ownBlock) s_.2.2.1 t382) ∧ (Kd.R (Kd.int .i64) 2 w' w.heap.size (fun k_ => some k_ ≠ (s_.1 : Value).ownBlock ∧ some k_ ≠ (s_.2.1 : Value).ownBlock ∧ some k_ ≠ (s_.2.2.1 : Value).ownBlock ∧ some k_ ≠ (.slice Ao53 t366.length co53 : Value).ownBlock ∧ some k_ ≠ (.slice Ao63 t368.length co63 : Value).ownBlock ∧ some k_ ≠ (.slice Ao73 t349.length co73 : Value).ownBlock) (.slice Ao43 t333.length co43) t333) ∧ (Kd.R (Kd.int .i64) 2 w' w.heap.size (fun k_ => some k_ ≠ (s_.1 : Value).ownBlock ∧ some k_ ≠ (s_.2.1 : Value).ownBlock ∧ some k_ ≠ (s_.2.2.1 : Value).ownBlock ∧ some k_ ≠ (.slice Ao43 t333.length co43 : Value).ownBlock ∧ some k_ ≠ (.slice Ao63 t368.length co63 : Value).ownBlock ∧ some k_ ≠ (.slice Ao73 t349.length co73 : Value).ownBlock) (.slice Ao53 t366.length co53) t366) ∧ (Kd.R (Kd.int .i64) 2 w' w.heap.size (fun k_ => some k_ ≠ (s_.1 : Value).ownBlock ∧ some k_ ≠ (s_.2.1 : Value).ownBlock ∧ some k_ ≠ (s_.2.2.1 : Value).ownBlock ∧ some k_ ≠ (.slice Ao43 t333.length co43 : Value).ownBlock ∧ some k_ ≠ (.slice Ao53 t366.length co53 : Value).ownBlock ∧ some k_ ≠ (.slice Ao73 t349.length co73 : Value).ownBlock) (.slice Ao63 t368.length co63) t368) ∧ (Kd.R (Kd.int .i64) 2 w' w.heap.size (fun k_ => some k_ ≠ (s_.1 : Value).ownBlock ∧ some k_ ≠ (s_.2.1 : Value).ownBlock ∧ some k_ ≠ (s_.2.2.1 : Value).ownBlock ∧ some k_ ≠ (.slice Ao43 t333.length co43 : Value).ownBlock ∧ some k_ ≠ (.slice Ao53 t366.length co53 : Value).ownBlock ∧ some k_ ≠ (.slice Ao63 t368.length co63 : Value).ownBlock) (.slice Ao73 t349.length co73) t371) ∧ (w'.heap[gb320]? = some (.cells #[.int .i64 a0_0, .slice A0_1 l0_1.length c0_1] 32 (0, 0))) ∧ (w'.heap[gb321]? = some (.cells #[.int .i64 a1_0, .slice A1_1 l1_1.length c1_1] 32 (0, 0))) ∧ (w'.heap[gb337]? = some (.cells #[.int .i64 t332, .slice Ao43 t333.length co43] 36 (0, 0))) ∧ (w'.heap[gb342]? = some (.cells #[.int .i64 t338, .slice Ao53 t366.length co53] 36 (0, 0))) ∧ (w'.heap[gb347]? = some (.cells #[.int .i64 t343, .slice Ao63 t368.length co63] 36 (0, 0))) ∧ (w'.heap[gb353]? = some (.cells #[.int .i64 t348, .slice Ao73 t349.length co73] 36 (0, 0))) ∧ (w'.heap[s_.2.2.2]? = some (.cells #[.int .i64 0, .slice none 0 0] 36 (0, 0))) ∧ (w.heap.size ≤ s_.2.2.2) ∧ (w.heap.size ≤ s_.2.2.2) ∧ (gb320 ≠ s_.2.2.2) ∧ (s_.2.2.2 ≠ gb320) ∧ (gb321 ≠ s_.2.2.2) ∧ (s_.2.2.2 ≠ gb321) ∧ (gb337 ≠ s_.2.2.2) ∧ (s_.2.2.2 ≠ gb337) ∧ (gb342 ≠ s_.2.2.2) ∧ (s_.2.2.2 ≠ gb342) ∧ (gb347 ≠ s_.2.2.2) ∧ (s_.2.2.2 ≠ gb347) ∧ (gb353 ≠ s_.2.2.2) ∧ (s_.2.2.2 ≠ gb353) ∧ (Below w.heap.size w w')) ?_ ?_
             rotate_left
             ·intro hCont
              refine two_ (i := 1) (j := 9) (Ni := some 100) (Nj := some 17) #[true, true, true, false, true, false, false, false, false, false, false, false] #[true, false, true, false, true, false, false, false, false, true, false, false] rfl rfl rfl rfl (two_of HT_.out (by kernel_rfl)) (by decide) (by decide) (fun K hK => ?_) (fun K hK => ?_)
              ·skip
               refine goes_ Try.func16 (by kernel_rfl) rfl #[.agg #[.int .i64 a0_0, .slice A0_1 l0_1.length c0_1]] (by rfl) rfl rfl (by (try simp only [List.map_toArray, List.map_cons, List.map_nil]); first | done | rfl | (simp only [List.length_drop, List.length_take]; rfl)) ?_
               with_reducible refine (laws_toMoments.calls kj108 a0_0 _ _ l0_1 t373 t374 _ ?side1 ?side2 A163.out).mono ?_
               (case side1 => exact uC ((Kd.C_below HR0_1.out HB.out)))
               (case side2 => exact HC0_1.out)
               rintro e w177 ⟨v375, rfl, ho0, hb⟩
               refine ⟨_, rfl, ?_⟩
               have n0_ := zA (Kd.R_elder' (uR HO_338001.out) (Kd.R_base ho0) hb)
               have n1_ := zA (Kd.R_elder' (uR HO_343001.out) (Kd.R_base ho0) hb)
               have n2_ := zA (Kd.R_elder' (uR HO_348001.out) (Kd.R_base ho0) hb)
               have n3_ := zA (Kd.R_elder' (uR HO_354001.out) (Kd.R_base ho0) hb)
               have n4_ := zA (Kd.R_lower (Kd.R_new' (Kd.R_new' (Kd.R_new' (Kd.R_new' ho0 (Kd.R_lt (uR HO_338001.out))) (Kd.R_lt (uR HO_343001.out))) (Kd.R_lt (uR HO_348001.out))) (Kd.R_lt (uR HO_354001.out))) (below_size (uH HB.out)))
               have n5_ := xB BK320 hb
               have n6_ := xB BK321 hb
               have n7_ := xB BK337 hb
               have n8_ := xB BK342 hb
               have n9_ := xB BK347 hb
               have n10_ := xB BK353 hb
               have n11_ := xH HB hb
               clear HO_338001 HO_343001 HO_348001 HO_354001 BK320 BK321 BK337 BK342 BK347 BK353 HB
               have HO_338001 := n0_; have HO_343001 := n1_; have HO_348001 := n2_; have HO_354001 := n3_; have HO376 := n4_; have BK320 := n5_; have BK321 := n6_; have BK337 := n7_; have BK342 := n8_; have BK347 := n9_; have BK353 := n10_; have HB := n11_
               clear n0_ n1_ n2_ n3_ n4_ n5_ n6_ n7_ n8_ n9_ n10_ n11_
               (try clear hb); (try clear hb2); (try clear hk); (try clear hi); (try clear ho0)
               refine hK.out _ _ ⟨(blk_cell BK320.out 0).trans rfl, (blk_cell BK320.out 1).trans rfl, (blk_cell BK321.out 0).trans rfl, (blk_cell BK321.out 1).trans rfl⟩ (fun hHeld => ?_)
               clear hK K
               refine norm_ (a' := ?_) ?_ ?_
               rotate_left
               ·show Act.put _ (some 100) _ = _
                simp only [Act.put, List.setIfInBounds_toArray, List.set_cons_zero, List.set_cons_succ, i64_w, i32_w]
                rfl
               refine two_ (i := 3) (j := 9) (Ni := some 102) (Nj := some 17) #[true, true, true, true, true, false, false, false, false, false, false, false] #[true, true, true, false, true, false, false, false, false, true, false, false] rfl rfl rfl rfl (two_of HT_.out (by kernel_rfl)) (by decide) (by decide) (fun K hK => ?_) (fun K hK => ?_)
               ·skip
                refine goes_ Try.func16 (by kernel_rfl) rfl #[.agg #[.int .i64 a1_0, .slice A1_1 l1_1.length c1_1]] (by rfl) rfl rfl (by (try simp only [List.map_toArray, List.map_cons, List.map_nil]); first | done | rfl | (simp only [List.length_drop, List.length_take]; rfl)) ?_
                with_reducible refine (laws_toMoments.calls kj108 a1_0 _ _ l1_1 t377 t378 _ ?side1 ?side2 A164.out).mono ?_
                (case side1 => exact uC ((Kd.C_below HR1_1.out HB.out)))
                (case side2 => exact HC1_1.out)
                rintro e w178 ⟨v379, rfl, ho0, hb⟩
                refine ⟨_, rfl, ?_⟩
                have n0_ := zA (Kd.R_elder' (uR HO_338001.out) (Kd.R_base ho0) hb)
                have n1_ := zA (Kd.R_elder' (uR HO_343001.out) (Kd.R_base ho0) hb)
                have n2_ := zA (Kd.R_elder' (uR HO_348001.out) (Kd.R_base ho0) hb)
                have n3_ := zA (Kd.R_elder' (uR HO_354001.out) (Kd.R_base ho0) hb)
                have n4_ := zA (Kd.R_elder' (uR HO376.out) (Kd.R_base ho0) hb)
                have n5_ := zA (Kd.R_lower (Kd.R_new' (Kd.R_new' (Kd.R_new' (Kd.R_new' (Kd.R_new' ho0 (Kd.R_lt (uR HO_338001.out))) (Kd.R_lt (uR HO_343001.out))) (Kd.R_lt (uR HO_348001.out))) (Kd.R_lt (uR HO_354001.out))) (Kd.R_lt (uR HO376.out))) (below_size (uH HB.out)))
                have n6_ := xB BK320 hb
                have n7_ := xB BK321 hb
                have n8_ := xB BK337 hb
                have n9_ := xB BK342 hb
                have n10_ := xB BK347 hb
                have n11_ := xB BK353 hb
                have n12_ := xH HB hb
                clear HO_338001 HO_343001 HO_348001 HO_354001 HO376 BK320 BK321 BK337 BK342 BK347 BK353 HB
                have HO_338001 := n0_; have HO_343001 := n1_; have HO_348001 := n2_; have HO_354001 := n3_; have HO376 := n4_; have HO380 := n5_; have BK320 := n6_; have BK321 := n7_; have BK337 := n8_; have BK342 := n9_; have BK347 := n10_; have BK353 := n11_; have HB := n12_
                clear n0_ n1_ n2_ n3_ n4_ n5_ n6_ n7_ n8_ n9_ n10_ n11_ n12_
                (try clear hb); (try clear hb2); (try clear hk); (try clear hi); (try clear ho0)
                obtain ⟨Ao179, co179, eo179⟩ := Kd.R_slice HO376.out
                (first | subst eo179 | (injection eo179 with f1_ f2_ f3_; have f4_ := f1_.symm; have f5_ := f3_.symm; clear f1_ f2_ f3_; subst f4_; subst f5_))
                obtain ⟨Ao180, co180, eo180⟩ := Kd.R_slice HO380.out
                (first | subst eo180 | (injection eo180 with f1_ f2_ f3_; have f4_ := f1_.symm; have f5_ := f3_.symm; clear f1_ f2_ f3_; subst f4_; subst f5_))
                refine hK.out _ _ ⟨(blk_cell BK320.out 0).trans rfl, (blk_cell BK320.out 1).trans rfl, (blk_cell BK321.out 0).trans rfl, (blk_cell BK321.out 1).trans rfl⟩ (fun hHeld => ?_)
                clear hK K
                refine norm_ (a' := ?_) ?_ ?_
                rotate_left
                ·show Act.put _ (some 102) _ = _
                 simp only [Act.put, List.setIfInBounds_toArray, List.set_cons_zero, List.set_cons_succ, i64_w, i32_w]
                 rfl
                refine two_ (i := 5) (j := 9) (Ni := some 104) (Nj := some 17) #[true, true, true, true, true, true, false, false, false, false, false, false] #[true, true, true, true, true, false, false, false, false, true, false, false] rfl rfl rfl rfl (two_of HT_.out (by kernel_rfl)) (by decide) (by decide) (fun K hK => ?_) (fun K hK => ?_)
                ·skip
                 refine goes_ Try.func22 (by kernel_rfl) rfl #[.agg #[.int .i64 t373, .slice Ao179 t374.length co179], .agg #[.int .i64 t377, .slice Ao180 t378.length co180], .int .i64 a2] (by rfl) rfl rfl (by (try simp only [List.map_toArray, List.map_cons, List.map_nil]); first | done | rfl | (simp only [List.length_drop, List.length_take]; rfl)) ?_
                 with_reducible refine (impl_AddMoments.calls kj108 t373 _ _ t374 t377 _ _ t378 a2 t381 t382 t385 _ ?side1 ?side2 ?side3 ?side4 A165.out).mono ?_
                 (case side1 => exact uC ((Kd.R_reads' HO376.out).2.2))
                 (case side2 => exact (Kd.R_reads' HO376.out).2.1)
                 (case side3 => exact uC ((Kd.R_reads' HO380.out).2.2))
                 (case side4 => exact (Kd.R_reads' HO380.out).2.1)
                 rintro e w181 ⟨v383, rfl, ho0, hb⟩
                 refine ⟨_, rfl, ?_⟩
                 have n0_ := zA (Kd.R_elder' (uR HO_338001.out) (Kd.R_base ho0) hb)
                 have n1_ := zA (Kd.R_elder' (uR HO_343001.out) (Kd.R_base ho0) hb)
                 have n2_ := zA (Kd.R_elder' (uR HO_348001.out) (Kd.R_base ho0) hb)
                 have n3_ := zA (Kd.R_elder' (uR HO_354001.out) (Kd.R_base ho0) hb)
                 have n4_ := zA (Kd.R_elder' (uR HO376.out) (Kd.R_base ho0) hb)
                 have n5_ := zA (Kd.R_elder' (uR HO380.out) (Kd.R_base ho0) hb)
                 have n6_ := zA (Kd.R_lower (Kd.R_new' (Kd.R_new' (Kd.R_new' (Kd.R_new' (Kd.R_new' (Kd.R_new' ho0 (Kd.R_lt (uR HO_338001.out))) (Kd.R_lt (uR HO_343001.out))) (Kd.R_lt (uR HO_348001.out))) (Kd.R_lt (uR HO_354001.out))) (Kd.R_lt (uR HO376.out))) (Kd.R_lt (uR HO380.out))) (below_size (uH HB.out)))
                 have n7_ := xB BK320 hb
                 have n8_ := xB BK321 hb
                 have n9_ := xB BK337 hb
                 have n10_ := xB BK342 hb
                 have n11_ := xB BK347 hb
                 have n12_ := xB BK353 hb
                 have n13_ := xH HB hb
                 clear HO_338001 HO_343001 HO_348001 HO_354001 HO376 HO380 BK320 BK321 BK337 BK342 BK347 BK353 HB
                 have HO_338001 := n0_; have HO_343001 := n1_; have HO_348001 := n2_; have HO_354001 := n3_; have HO376 := n4_; have HO380 := n5_; have HO384 := n6_; have BK320 := n7_; have BK321 := n8_; have BK337 := n9_; have BK342 := n10_; have BK347 := n11_; have BK353 := n12_; have HB := n13_
                 clear n0_ n1_ n2_ n3_ n4_ n5_ n6_ n7_ n8_ n9_ n10_ n11_ n12_ n13_
                 (try clear hb); (try clear hb2); (try clear hk); (try clear hi); (try clear ho0)
                 refine hK.out _ _ ⟨(blk_cell BK320.out 0).trans rfl, (blk_cell BK320.out 1).trans rfl, (blk_cell BK321.out 0).trans rfl, (blk_cell BK321.out 1).trans rfl⟩ (fun hHeld => ?_)
                 clear hK K
                 refine norm_ (a' := ?_) ?_ ?_
                 rotate_left
                 ·show Act.put _ (some 104) _ = _
                  simp only [Act.put, List.setIfInBounds_toArray, List.set_cons_zero, List.set_cons_succ, i64_w, i32_w]
                  rfl
                 refine pure_ (i := 6) (N := some 98) (v := ?_) (a' := ?_) #[true, true, true, true, true, true, true, false, false, false, false, false] rfl rfl (any_of HT_.out (by kernel_rfl)) (fun _ _ _ h => h) (Or.inl ⟨by rfl, ?_⟩) ?_ ?_
                 rotate_left
                 ·intro w'
                  go_simp
                  with_reducible rfl
                 rotate_left
                 ·simp only [Act.put, List.setIfInBounds_toArray, List.set_cons_zero, List.set_cons_succ, i64_w, i32_w]
                  rfl
                 refine pure_ (i := 7) (N := some 105) (v := ?_) (a' := ?_) #[true, true, true, true, true, true, true, true, false, false, false, false] rfl rfl (any_of HT_.out (by kernel_rfl)) (fun _ _ _ h => h) (Or.inl ⟨by rfl, ?_⟩) ?_ ?_
                 rotate_left
                 ·intro w'
                  go_simp
                  with_reducible rfl
                 rotate_left
                 ·simp only [Act.put, List.setIfInBounds_toArray, List.set_cons_zero, List.set_cons_succ, i64_w, i32_w]
                  rfl
                 refine pure_ (i := 8) (N := some 106) (v := ?_) (a' := ?_) #[true, true, true, true, true, true, true, true, true, false, false, false] rfl rfl (any_of HT_.out (by kernel_rfl)) (fun _ _ _ h => h) (Or.inl ⟨by rfl, ?_⟩) ?_ ?_
                 rotate_left
                 ·intro w'
                  go_simp
                  with_reducible rfl
                 rotate_left
                 ·simp only [Act.put, List.setIfInBounds_toArray, List.set_cons_zero, List.set_cons_succ, i64_w, i32_w]
                  rfl
                 refine one_ (i := 9) (N := some 17) #[true, true, true, true, true, true, true, true, true, true, false, false] rfl rfl (one_of HT_.out (by kernel_rfl)) (by decide) (fun K hK => ?_)
                 refine box_step ?hg (N := 17) ?hd (cs := #[.int .i64 0, .slice none 0 0]) (t := 36) ?hr ?_; (case hd => rfl); (case hg => rfl); (case hr => first | (go_simp; done) | (go_simp; rfl))
                 intro gb386 hg w182 hbox hb
                 have n0_ := xR HO_338001 hb
                 have n1_ := xR HO_343001 hb
                 have n2_ := xR HO_348001 hb
                 have n3_ := xR HO_354001 hb
                 have n4_ := xR HO376 hb
                 have n5_ := xR HO380 hb
                 have n6_ := xR HO384 hb
                 have n7_ := xB BK320 hb
                 have n8_ := xB BK321 hb
                 have n9_ := xB BK337 hb
                 have n10_ := xB BK342 hb
                 have n11_ := xB BK347 hb
                 have n12_ := xB BK353 hb
                 have n13_ := xH HB hb
                 have n14_ := zA (hbox)
                 have n15_ := zA ((by rw [hg]; exact (below_size (uH HB.out)) : w.heap.size ≤ gb386))
                 have n16_ := zA ((by rw [hg]; exact (below_size (uH HB.out)) : w.heap.size ≤ gb386))
                 have n17_ := zA ((by rw [hg]; exact neL BK320 : gb320 ≠ gb386))
                 have n18_ := zA ((by rw [hg]; exact neG BK320 : gb386 ≠ gb320))
                 have n19_ := zA ((by rw [hg]; exact neL BK321 : gb321 ≠ gb386))
                 have n20_ := zA ((by rw [hg]; exact neG BK321 : gb386 ≠ gb321))
                 have n21_ := zA ((by rw [hg]; exact neL BK337 : gb337 ≠ gb386))
                 have n22_ := zA ((by rw [hg]; exact neG BK337 : gb386 ≠ gb337))
                 have n23_ := zA ((by rw [hg]; exact neL BK342 : gb342 ≠ gb386))
                 have n24_ := zA ((by rw [hg]; exact neG BK342 : gb386 ≠ gb342))
                 have n25_ := zA ((by rw [hg]; exact neL BK347 : gb347 ≠ gb386))
                 have n26_ := zA ((by rw [hg]; exact neG BK347 : gb386 ≠ gb347))
                 have n27_ := zA ((by rw [hg]; exact neL BK353 : gb353 ≠ gb386))
                 have n28_ := zA ((by rw [hg]; exact neG BK353 : gb386 ≠ gb353))
                 clear HO_338001 HO_343001 HO_348001 HO_354001 HO376 HO380 HO384 BK320 BK321 BK337 BK342 BK347 BK353 HB
                 have HO_338001 := n0_; have HO_343001 := n1_; have HO_348001 := n2_; have HO_354001 := n3_; have HO376 := n4_; have HO380 := n5_; have HO384 := n6_; have BK320 := n7_; have BK321 := n8_; have BK337 := n9_; have BK342 := n10_; have BK347 := n11_; have BK353 := n12_; have HB := n13_; have BK386 := n14_; have GW386 := n15_
                 have GE386 := n16_; have := geI GE386; have NB320_386 := n17_; have NB386_320 := n18_; have NB321_386 := n19_; have NB386_321 := n20_; have NB337_386 := n21_; have NB386_337 := n22_; have NB342_386 := n23_; have NB386_342 := n24_; have NB347_386 := n25_; have NB386_347 := n26_; have NB353_386 := n27_; have NB386_353 := n28_
                 clear n0_ n1_ n2_ n3_ n4_ n5_ n6_ n7_ n8_ n9_ n10_ n11_ n12_ n13_ n14_ n15_ n16_ n17_ n18_ n19_ n20_ n21_ n22_ n23_ n24_ n25_ n26_ n27_ n28_
                 clear hb hbox hg
                 refine hK.out _ _ ⟨(blk_cell BK320.out 0).trans rfl, (blk_cell BK320.out 1).trans rfl, (blk_cell BK321.out 0).trans rfl, (blk_cell BK321.out 1).trans rfl⟩ (fun hHeld => ?_)
                 clear hK K
                 refine norm_ (a' := ?_) ?_ ?_
                 rotate_left
                 ·show Act.put _ (some 17) _ = _
                  simp only [Act.put, List.setIfInBounds_toArray, List.set_cons_zero, List.set_cons_succ, i64_w, i32_w]
                  rfl
                 exact norm_ (by simp only [putAll, Act.put, List.setIfInBounds_toArray, List.set_cons_zero, List.set_cons_succ]) (hCont (.slice Ao179 t374.length co179, .slice Ao180 t378.length co180, v383, gb386) _ ⟨hHeld, (uR (Kd.R_mono HO376.out (fun _ hk => ⟨hk.1.2, ⟨hk.2, ⟨hk.1.1.1.1.1.2, ⟨hk.1.1.1.1.2, ⟨hk.1.1.1.2, hk.1.1.2⟩⟩⟩⟩⟩))), (uR (Kd.R_mono HO380.out (fun _ hk => ⟨hk.1.2, ⟨hk.2, ⟨hk.1.1.1.1.1.2, ⟨hk.1.1.1.1.2, ⟨hk.1.1.1.2, hk.1.1.2⟩⟩⟩⟩⟩))), (uR (Kd.R_mono HO384.out (fun _ hk => ⟨hk.1.2, ⟨hk.2, ⟨hk.1.1.1.1.1.2, ⟨hk.1.1.1.1.2, ⟨hk.1.1.1.2, hk.1.1.2⟩⟩⟩⟩⟩))), (uR (Kd.R_mono HO_338001.out (fun _ hk => ⟨hk.1.1.2, ⟨hk.1.2, ⟨hk.2, ⟨hk.1.1.1.1, ⟨hk.1.1.1.2.1, hk.1.1.1.2.2⟩⟩⟩⟩⟩))), (uR (Kd.R_mono HO_343001.out (fun _ hk => ⟨hk.1.1.2, ⟨hk.1.2, ⟨hk.2, ⟨hk.1.1.1.1, ⟨hk.1.1.1.2.1, hk.1.1.1.2.2⟩⟩⟩⟩⟩))), (uR (Kd.R_mono HO_348001.out (fun _ hk => ⟨hk.1.1.2, ⟨hk.1.2, ⟨hk.2, ⟨hk.1.1.1.1, ⟨hk.1.1.1.2.1, hk.1.1.1.2.2⟩⟩⟩⟩⟩))), (uR (Kd.R_mono HO_354001.out (fun _ hk => ⟨hk.1.1.2, ⟨hk.1.2, ⟨hk.2, ⟨hk.1.1.1.1, ⟨hk.1.1.1.2.1, hk.1.1.1.2.2⟩⟩⟩⟩⟩))), (uB BK320.out), (uB BK321.out), (uB BK337.out), (uB BK342.out), (uB BK347.out), (uB BK353.out), (uB BK386.out), GW386.out, GE386.out, NB320_386.out, NB386_320.out, NB321_386.out, NB386_321.out, NB337_386.out, NB386_337.out, NB342_386.out, NB386_342.out, NB347_386.out, NB386_347.out, NB353_386.out, NB386_353.out, (uH HB.out)⟩)
                ·skip
                 refine box_step ?hg (N := 17) ?hd (cs := #[.int .i64 0, .slice none 0 0]) (t := 36) ?hr ?_; (case hd => rfl); (case hg => rfl); (case hr => first | (go_simp; done) | (go_simp; rfl))
                 intro gb386 hg w179 hbox hb
                 have n0_ := xR HO_338001 hb
                 have n1_ := xR HO_343001 hb
                 have n2_ := xR HO_348001 hb
                 have n3_ := xR HO_354001 hb
                 have n4_ := xR HO376 hb
                 have n5_ := xR HO380 hb
                 have n6_ := xB BK320 hb
                 have n7_ := xB BK321 hb
                 have n8_ := xB BK337 hb
                 have n9_ := xB BK342 hb
                 have n10_ := xB BK347 hb
                 have n11_ := xB BK353 hb
                 have n12_ := xH HB hb
                 have n13_ := zA (hbox)
                 have n14_ := zA ((by rw [hg]; exact (below_size (uH HB.out)) : w.heap.size ≤ gb386))
                 have n15_ := zA ((by rw [hg]; exact (below_size (uH HB.out)) : w.heap.size ≤ gb386))
                 have n16_ := zA ((by rw [hg]; exact neL BK320 : gb320 ≠ gb386))
                 have n17_ := zA ((by rw [hg]; exact neG BK320 : gb386 ≠ gb320))
                 have n18_ := zA ((by rw [hg]; exact neL BK321 : gb321 ≠ gb386))
                 have n19_ := zA ((by rw [hg]; exact neG BK321 : gb386 ≠ gb321))
                 have n20_ := zA ((by rw [hg]; exact neL BK337 : gb337 ≠ gb386))
                 have n21_ := zA ((by rw [hg]; exact neG BK337 : gb386 ≠ gb337))
                 have n22_ := zA ((by rw [hg]; exact neL BK342 : gb342 ≠ gb386))
                 have n23_ := zA ((by rw [hg]; exact neG BK342 : gb386 ≠ gb342))
                 have n24_ := zA ((by rw [hg]; exact neL BK347 : gb347 ≠ gb386))
                 have n25_ := zA ((by rw [hg]; exact neG BK347 : gb386 ≠ gb347))
                 have n26_ := zA ((by rw [hg]; exact neL BK353 : gb353 ≠ gb386))
                 have n27_ := zA ((by rw [hg]; exact neG BK353 : gb386 ≠ gb353))
                 clear HO_338001 HO_343001 HO_348001 HO_354001 HO376 HO380 BK320 BK321 BK337 BK342 BK347 BK353 HB
                 have HO_338001 := n0_; have HO_343001 := n1_; have HO_348001 := n2_; have HO_354001 := n3_; have HO376 := n4_; have HO380 := n5_; have BK320 := n6_; have BK321 := n7_; have BK337 := n8_; have BK342 := n9_; have BK347 := n10_; have BK353 := n11_; have HB := n12_; have BK386 := n13_; have GW386 := n14_
                 have GE386 := n15_; have := geI GE386; have NB320_386 := n16_; have NB386_320 := n17_; have NB321_386 := n18_; have NB386_321 := n19_; have NB337_386 := n20_; have NB386_337 := n21_; have NB342_386 := n22_; have NB386_342 := n23_; have NB347_386 := n24_; have NB386_347 := n25_; have NB353_386 := n26_; have NB386_353 := n27_
                 clear n0_ n1_ n2_ n3_ n4_ n5_ n6_ n7_ n8_ n9_ n10_ n11_ n12_ n13_ n14_ n15_ n16_ n17_ n18_ n19_ n20_ n21_ n22_ n23_ n24_ n25_ n26_ n27_
                 clear hb hbox hg
                 obtain ⟨Ao180, co180, eo180⟩ := Kd.R_slice HO376.out
                 (first | subst eo180 | (injection eo180 with f1_ f2_ f3_; have f4_ := f1_.symm; have f5_ := f3_.symm; clear f1_ f2_ f3_; subst f4_; subst f5_))
                 obtain ⟨Ao181, co181, eo181⟩ := Kd.R_slice HO380.out
                 (first | subst eo181 | (injection eo181 with f1_ f2_ f3_; have f4_ := f1_.symm; have f5_ := f3_.symm; clear f1_ f2_ f3_; subst f4_; subst f5_))
                 refine hK.out _ _ ⟨(blk_cell BK320.out 0).trans rfl, (blk_cell BK320.out 1).trans rfl, (blk_cell BK321.out 0).trans rfl, (blk_cell BK321.out 1).trans rfl⟩ (fun hHeld => ?_)
                 clear hK K
                 refine norm_ (a' := ?_) ?_ ?_
                 rotate_left
                 ·show Act.put _ (some 17) _ = _
                  simp only [Act.put, List.setIfInBounds_toArray, List.set_cons_zero, List.set_cons_succ, i64_w, i32_w]
                  rfl
                 refine one_ (i := 5) (N := some 104) #[true, true, true, true, true, true, false, false, false, true, false, false] rfl rfl (one_of HT_.out (by kernel_rfl)) (by decide) (fun K hK => ?_)
                 refine goes_ Try.func22 (by kernel_rfl) rfl #[.agg #[.int .i64 t373, .slice Ao180 t374.length co180], .agg #[.int .i64 t377, .slice Ao181 t378.length co181], .int .i64 a2] (by rfl) rfl rfl (by (try simp only [List.map_toArray, List.map_cons, List.map_nil]); first | done | rfl | (simp only [List.length_drop, List.length_take]; rfl)) ?_
                 with_reducible refine (impl_AddMoments.calls kj108 t373 _ _ t374 t377 _ _ t378 a2 t381 t382 t385 _ ?side1 ?side2 ?side3 ?side4 A165.out).mono ?_
                 (case side1 => exact uC ((Kd.R_reads' HO376.out).2.2))
                 (case side2 => exact (Kd.R_reads' HO376.out).2.1)
                 (case side3 => exact uC ((Kd.R_reads' HO380.out).2.2))
                 (case side4 => exact (Kd.R_reads' HO380.out).2.1)
                 rintro e w182 ⟨v383, rfl, ho0, hb⟩
                 refine ⟨_, rfl, ?_⟩
                 have n0_ := zA (Kd.R_elder' (uR HO_338001.out) (Kd.R_base ho0) hb)
                 have n1_ := zA (Kd.R_elder' (uR HO_343001.out) (Kd.R_base ho0) hb)
                 have n2_ := zA (Kd.R_elder' (uR HO_348001.out) (Kd.R_base ho0) hb)
                 have n3_ := zA (Kd.R_elder' (uR HO_354001.out) (Kd.R_base ho0) hb)
                 have n4_ := zA (Kd.R_elder' (uR HO376.out) (Kd.R_base ho0) hb)
                 have n5_ := zA (Kd.R_elder' (uR HO380.out) (Kd.R_base ho0) hb)
                 have n6_ := zA (Kd.R_lower (Kd.R_new' (Kd.R_new' (Kd.R_new' (Kd.R_new' (Kd.R_new' (Kd.R_new' ho0 (Kd.R_lt (uR HO_338001.out))) (Kd.R_lt (uR HO_343001.out))) (Kd.R_lt (uR HO_348001.out))) (Kd.R_lt (uR HO_354001.out))) (Kd.R_lt (uR HO376.out))) (Kd.R_lt (uR HO380.out))) (below_size (uH HB.out)))
                 have n7_ := xB BK320 hb
                 have n8_ := xB BK321 hb
                 have n9_ := xB BK337 hb
                 have n10_ := xB BK342 hb
                 have n11_ := xB BK347 hb
                 have n12_ := xB BK353 hb
                 have n13_ := xB BK386 hb
                 have n14_ := xH HB hb
                 clear HO_338001 HO_343001 HO_348001 HO_354001 HO376 HO380 BK320 BK321 BK337 BK342 BK347 BK353 BK386 HB
                 have HO_338001 := n0_; have HO_343001 := n1_; have HO_348001 := n2_; have HO_354001 := n3_; have HO376 := n4_; have HO380 := n5_; have HO384 := n6_; have BK320 := n7_; have BK321 := n8_; have BK337 := n9_; have BK342 := n10_; have BK347 := n11_; have BK353 := n12_; have BK386 := n13_; have HB := n14_
                 clear n0_ n1_ n2_ n3_ n4_ n5_ n6_ n7_ n8_ n9_ n10_ n11_ n12_ n13_ n14_
                 (try clear hb); (try clear hb2); (try clear hk); (try clear hi); (try clear ho0)
                 refine hK.out _ _ ⟨(blk_cell BK320.out 0).trans rfl, (blk_cell BK320.out 1).trans rfl, (blk_cell BK321.out 0).trans rfl, (blk_cell BK321.out 1).trans rfl⟩ (fun hHeld => ?_)
                 clear hK K
                 refine norm_ (a' := ?_) ?_ ?_
                 rotate_left
                 ·show Act.put _ (some 104) _ = _
                  simp only [Act.put, List.setIfInBounds_toArray, List.set_cons_zero, List.set_cons_succ, i64_w, i32_w]
                  rfl
                 refine pure_ (i := 6) (N := some 98) (v := ?_) (a' := ?_) #[true, true, true, true, true, true, true, false, false, true, false, false] rfl rfl (any_of HT_.out (by kernel_rfl)) (fun _ _ _ h => h) (Or.inl ⟨by rfl, ?_⟩) ?_ ?_
                 rotate_left
                 ·intro w'
                  go_simp
                  with_reducible rfl
                 rotate_left
                 ·simp only [Act.put, List.setIfInBounds_toArray, List.set_cons_zero, List.set_cons_succ, i64_w, i32_w]
                  rfl
                 refine pure_ (i := 7) (N := some 105) (v := ?_) (a' := ?_) #[true, true, true, true, true, true, true, true, false, true, false, false] rfl rfl (any_of HT_.out (by kernel_rfl)) (fun _ _ _ h => h) (Or.inl ⟨by rfl, ?_⟩) ?_ ?_
                 rotate_left
                 ·intro w'
                  go_simp
                  with_reducible rfl
                 rotate_left
                 ·simp only [Act.put, List.setIfInBounds_toArray, List.set_cons_zero, List.set_cons_succ, i64_w, i32_w]
                  rfl
                 refine pure_ (i := 8) (N := some 106) (v := ?_) (a' := ?_) #[true, true, true, true, true, true, true, true, true, true, false, false] rfl rfl (any_of HT_.out (by kernel_rfl)) (fun _ _ _ h => h) (Or.inl ⟨by rfl, ?_⟩) ?_ ?_
                 rotate_left
                 ·intro w'
                  go_simp
                  with_reducible rfl
                 rotate_left
                 ·simp only [Act.put, List.setIfInBounds_toArray, List.set_cons_zero, List.set_cons_succ, i64_w, i32_w]
                  rfl
                 exact norm_ (by simp only [putAll, Act.put, List.setIfInBounds_toArray, List.set_cons_zero, List.set_cons_succ]) (hCont (.slice Ao180 t374.length co180, .slice Ao181 t378.length co181, v383, gb386) _ ⟨hHeld, (uR (Kd.R_mono HO376.out (fun _ hk => ⟨hk.1.2, ⟨hk.2, ⟨hk.1.1.1.1.1.2, ⟨hk.1.1.1.1.2, ⟨hk.1.1.1.2, hk.1.1.2⟩⟩⟩⟩⟩))), (uR (Kd.R_mono HO380.out (fun _ hk => ⟨hk.1.2, ⟨hk.2, ⟨hk.1.1.1.1.1.2, ⟨hk.1.1.1.1.2, ⟨hk.1.1.1.2, hk.1.1.2⟩⟩⟩⟩⟩))), (uR (Kd.R_mono HO384.out (fun _ hk => ⟨hk.1.2, ⟨hk.2, ⟨hk.1.1.1.1.1.2, ⟨hk.1.1.1.1.2, ⟨hk.1.1.1.2, hk.1.1.2⟩⟩⟩⟩⟩))), (uR (Kd.R_mono HO_338001.out (fun _ hk => ⟨hk.1.1.2, ⟨hk.1.2, ⟨hk.2, ⟨hk.1.1.1.1, ⟨hk.1.1.1.2.1, hk.1.1.1.2.2⟩⟩⟩⟩⟩))), (uR (Kd.R_mono HO_343001.out (fun _ hk => ⟨hk.1.1.2, ⟨hk.1.2, ⟨hk.2, ⟨hk.1.1.1.1, ⟨hk.1.1.1.2.1, hk.1.1.1.2.2⟩⟩⟩⟩⟩))), (uR (Kd.R_mono HO_348001.out (fun _ hk => ⟨hk.1.1.2, ⟨hk.1.2, ⟨hk.2, ⟨hk.1.1.1.1, ⟨hk.1.1.1.2.1, hk.1.1.1.2.2⟩⟩⟩⟩⟩))), (uR (Kd.R_mono HO_354001.out (fun _ hk => ⟨hk.1.1.2, ⟨hk.1.2, ⟨hk.2, ⟨hk.1.1.1.1, ⟨hk.1.1.1.2.1, hk.1.1.1.2.2⟩⟩⟩⟩⟩))), (uB BK320.out), (uB BK321.out), (uB BK337.out), (uB BK342.out), (uB BK347.out), (uB BK353.out), (uB BK386.out), GW386.out, GE386.out, NB320_386.out, NB386_320.out, NB321_386.out, NB386_321.out, NB337_386.out, NB386_337.out, NB342_386.out, NB386_342.out, NB347_386.out, NB386_347.out, NB353_386.out, NB386_353.out, (uH HB.out)⟩)
               ·skip
                refine box_step ?hg (N := 17) ?hd (cs := #[.int .i64 0, .slice none 0 0]) (t := 36) ?hr ?_; (case hd => rfl); (case hg => rfl); (case hr => first | (go_simp; done) | (go_simp; rfl))
                intro gb386 hg w178 hbox hb
                have n0_ := xR HO_338001 hb
                have n1_ := xR HO_343001 hb
                have n2_ := xR HO_348001 hb
                have n3_ := xR HO_354001 hb
                have n4_ := xR HO376 hb
                have n5_ := xB BK320 hb
                have n6_ := xB BK321 hb
                have n7_ := xB BK337 hb
                have n8_ := xB BK342 hb
                have n9_ := xB BK347 hb
                have n10_ := xB BK353 hb
                have n11_ := xH HB hb
                have n12_ := zA (hbox)
                have n13_ := zA ((by rw [hg]; exact (below_size (uH HB.out)) : w.heap.size ≤ gb386))
                have n14_ := zA ((by rw [hg]; exact (below_size (uH HB.out)) : w.heap.size ≤ gb386))
                have n15_ := zA ((by rw [hg]; exact neL BK320 : gb320 ≠ gb386))
                have n16_ := zA ((by rw [hg]; exact neG BK320 : gb386 ≠ gb320))
                have n17_ := zA ((by rw [hg]; exact neL BK321 : gb321 ≠ gb386))
                have n18_ := zA ((by rw [hg]; exact neG BK321 : gb386 ≠ gb321))
                have n19_ := zA ((by rw [hg]; exact neL BK337 : gb337 ≠ gb386))
                have n20_ := zA ((by rw [hg]; exact neG BK337 : gb386 ≠ gb337))
                have n21_ := zA ((by rw [hg]; exact neL BK342 : gb342 ≠ gb386))
                have n22_ := zA ((by rw [hg]; exact neG BK342 : gb386 ≠ gb342))
                have n23_ := zA ((by rw [hg]; exact neL BK347 : gb347 ≠ gb386))
                have n24_ := zA ((by rw [hg]; exact neG BK347 : gb386 ≠ gb347))
                have n25_ := zA ((by rw [hg]; exact neL BK353 : gb353 ≠ gb386))
                have n26_ := zA ((by rw [hg]; exact neG BK353 : gb386 ≠ gb353))
                clear HO_338001 HO_343001 HO_348001 HO_354001 HO376 BK320 BK321 BK337 BK342 BK347 BK353 HB
                have HO_338001 := n0_; have HO_343001 := n1_; have HO_348001 := n2_; have HO_354001 := n3_; have HO376 := n4_; have BK320 := n5_; have BK321 := n6_; have BK337 := n7_; have BK342 := n8_; have BK347 := n9_; have BK353 := n10_; have HB := n11_; have BK386 := n12_; have GW386 := n13_
                have GE386 := n14_; have := geI GE386; have NB320_386 := n15_; have NB386_320 := n16_; have NB321_386 := n17_; have NB386_321 := n18_; have NB337_386 := n19_; have NB386_337 := n20_; have NB342_386 := n21_; have NB386_342 := n22_; have NB347_386 := n23_; have NB386_347 := n24_; have NB353_386 := n25_; have NB386_353 := n26_
                clear n0_ n1_ n2_ n3_ n4_ n5_ n6_ n7_ n8_ n9_ n10_ n11_ n12_ n13_ n14_ n15_ n16_ n17_ n18_ n19_ n20_ n21_ n22_ n23_ n24_ n25_ n26_
                clear hb hbox hg
                refine hK.out _ _ ⟨(blk_cell BK320.out 0).trans rfl, (blk_cell BK320.out 1).trans rfl, (blk_cell BK321.out 0).trans rfl, (blk_cell BK321.out 1).trans rfl⟩ (fun hHeld => ?_)
                clear hK K
                refine norm_ (a' := ?_) ?_ ?_
                rotate_left
                ·show Act.put _ (some 17) _ = _
                 simp only [Act.put, List.setIfInBounds_toArray, List.set_cons_zero, List.set_cons_succ, i64_w, i32_w]
                 rfl
                refine one_ (i := 3) (N := some 102) #[true, true, true, true, true, false, false, false, false, true, false, false] rfl rfl (one_of HT_.out (by kernel_rfl)) (by decide) (fun K hK => ?_)
                refine goes_ Try.func16 (by kernel_rfl) rfl #[.agg #[.int .i64 a1_0, .slice A1_1 l1_1.length c1_1]] (by rfl) rfl rfl (by (try simp only [List.map_toArray, List.map_cons, List.map_nil]); first | done | rfl | (simp only [List.length_drop, List.length_take]; rfl)) ?_
                with_reducible refine (laws_toMoments.calls kj108 a1_0 _ _ l1_1 t377 t378 _ ?side1 ?side2 A164.out).mono ?_
                (case side1 => exact uC ((Kd.C_below HR1_1.out HB.out)))
                (case side2 => exact HC1_1.out)
                rintro e w179 ⟨v379, rfl, ho0, hb⟩
                refine ⟨_, rfl, ?_⟩
                have n0_ := zA (Kd.R_elder' (uR HO_338001.out) (Kd.R_base ho0) hb)
                have n1_ := zA (Kd.R_elder' (uR HO_343001.out) (Kd.R_base ho0) hb)
                have n2_ := zA (Kd.R_elder' (uR HO_348001.out) (Kd.R_base ho0) hb)
                have n3_ := zA (Kd.R_elder' (uR HO_354001.out) (Kd.R_base ho0) hb)
                have n4_ := zA (Kd.R_elder' (uR HO376.out) (Kd.R_base ho0) hb)
                have n5_ := zA (Kd.R_lower (Kd.R_new' (Kd.R_new' (Kd.R_new' (Kd.R_new' (Kd.R_new' ho0 (Kd.R_lt (uR HO_338001.out))) (Kd.R_lt (uR HO_343001.out))) (Kd.R_lt (uR HO_348001.out))) (Kd.R_lt (uR HO_354001.out))) (Kd.R_lt (uR HO376.out))) (below_size (uH HB.out)))
                have n6_ := xB BK320 hb
                have n7_ := xB BK321 hb
                have n8_ := xB BK337 hb
                have n9_ := xB BK342 hb
                have n10_ := xB BK347 hb
                have n11_ := xB BK353 hb
                have n12_ := xB BK386 hb
                have n13_ := xH HB hb
                clear HO_338001 HO_343001 HO_348001 HO_354001 HO376 BK320 BK321 BK337 BK342 BK347 BK353 BK386 HB
                have HO_338001 := n0_; have HO_343001 := n1_; have HO_348001 := n2_; have HO_354001 := n3_; have HO376 := n4_; have HO380 := n5_; have BK320 := n6_; have BK321 := n7_; have BK337 := n8_; have BK342 := n9_; have BK347 := n10_; have BK353 := n11_; have BK386 := n12_; have HB := n13_
                clear n0_ n1_ n2_ n3_ n4_ n5_ n6_ n7_ n8_ n9_ n10_ n11_ n12_ n13_
                (try clear hb); (try clear hb2); (try clear hk); (try clear hi); (try clear ho0)
                obtain ⟨Ao180, co180, eo180⟩ := Kd.R_slice HO376.out
                (first | subst eo180 | (injection eo180 with f1_ f2_ f3_; have f4_ := f1_.symm; have f5_ := f3_.symm; clear f1_ f2_ f3_; subst f4_; subst f5_))
                obtain ⟨Ao181, co181, eo181⟩ := Kd.R_slice HO380.out
                (first | subst eo181 | (injection eo181 with f1_ f2_ f3_; have f4_ := f1_.symm; have f5_ := f3_.symm; clear f1_ f2_ f3_; subst f4_; subst f5_))
                refine hK.out _ _ ⟨(blk_cell BK320.out 0).trans rfl, (blk_cell BK320.out 1).trans rfl, (blk_cell BK321.out 0).trans rfl, (blk_cell BK321.out 1).trans rfl⟩ (fun hHeld => ?_)
                clear hK K
                refine norm_ (a' := ?_) ?_ ?_
                rotate_left
                ·show Act.put _ (some 102) _ = _
                 simp only [Act.put, List.setIfInBounds_toArray, List.set_cons_zero, List.set_cons_succ, i64_w, i32_w]
                 rfl
                refine one_ (i := 5) (N := some 104) #[true, true, true, true, true, true, false, false, false, true, false, false] rfl rfl (one_of HT_.out (by kernel_rfl)) (by decide) (fun K hK => ?_)
                refine goes_ Try.func22 (by kernel_rfl) rfl #[.agg #[.int .i64 t373, .slice Ao180 t374.length co180], .agg #[.int .i64 t377, .slice Ao181 t378.length co181], .int .i64 a2] (by rfl) rfl rfl (by (try simp only [List.map_toArray, List.map_cons, List.map_nil]); first | done | rfl | (simp only [List.length_drop, List.length_take]; rfl)) ?_
                with_reducible refine (impl_AddMoments.calls kj108 t373 _ _ t374 t377 _ _ t378 a2 t381 t382 t385 _ ?side1 ?side2 ?side3 ?side4 A165.out).mono ?_
                (case side1 => exact uC ((Kd.R_reads' HO376.out).2.2))
                (case side2 => exact (Kd.R_reads' HO376.out).2.1)
                (case side3 => exact uC ((Kd.R_reads' HO380.out).2.2))
                (case side4 => exact (Kd.R_reads' HO380.out).2.1)
                rintro e w182 ⟨v383, rfl, ho0, hb⟩
                refine ⟨_, rfl, ?_⟩
                have n0_ := zA (Kd.R_elder' (uR HO_338001.out) (Kd.R_base ho0) hb)
                have n1_ := zA (Kd.R_elder' (uR HO_343001.out) (Kd.R_base ho0) hb)
                have n2_ := zA (Kd.R_elder' (uR HO_348001.out) (Kd.R_base ho0) hb)
                have n3_ := zA (Kd.R_elder' (uR HO_354001.out) (Kd.R_base ho0) hb)
                have n4_ := zA (Kd.R_elder' (uR HO376.out) (Kd.R_base ho0) hb)
                have n5_ := zA (Kd.R_elder' (uR HO380.out) (Kd.R_base ho0) hb)
                have n6_ := zA (Kd.R_lower (Kd.R_new' (Kd.R_new' (Kd.R_new' (Kd.R_new' (Kd.R_new' (Kd.R_new' ho0 (Kd.R_lt (uR HO_338001.out))) (Kd.R_lt (uR HO_343001.out))) (Kd.R_lt (uR HO_348001.out))) (Kd.R_lt (uR HO_354001.out))) (Kd.R_lt (uR HO376.out))) (Kd.R_lt (uR HO380.out))) (below_size (uH HB.out)))
                have n7_ := xB BK320 hb
                have n8_ := xB BK321 hb
                have n9_ := xB BK337 hb
                have n10_ := xB BK342 hb
                have n11_ := xB BK347 hb
                have n12_ := xB BK353 hb
                have n13_ := xB BK386 hb
                have n14_ := xH HB hb
                clear HO_338001 HO_343001 HO_348001 HO_354001 HO376 HO380 BK320 BK321 BK337 BK342 BK347 BK353 BK386 HB
                have HO_338001 := n0_; have HO_343001 := n1_; have HO_348001 := n2_; have HO_354001 := n3_; have HO376 := n4_; have HO380 := n5_; have HO384 := n6_; have BK320 := n7_; have BK321 := n8_; have BK337 := n9_; have BK342 := n10_; have BK347 := n11_; have BK353 := n12_; have BK386 := n13_; have HB := n14_
                clear n0_ n1_ n2_ n3_ n4_ n5_ n6_ n7_ n8_ n9_ n10_ n11_ n12_ n13_ n14_
                (try clear hb); (try clear hb2); (try clear hk); (try clear hi); (try clear ho0)
                refine hK.out _ _ ⟨(blk_cell BK320.out 0).trans rfl, (blk_cell BK320.out 1).trans rfl, (blk_cell BK321.out 0).trans rfl, (blk_cell BK321.out 1).trans rfl⟩ (fun hHeld => ?_)
                clear hK K
                refine norm_ (a' := ?_) ?_ ?_
                rotate_left
                ·show Act.put _ (some 104) _ = _
                 simp only [Act.put, List.setIfInBounds_toArray, List.set_cons_zero, List.set_cons_succ, i64_w, i32_w]
                 rfl
                refine pure_ (i := 6) (N := some 98) (v := ?_) (a' := ?_) #[true, true, true, true, true, true, true, false, false, true, false, false] rfl rfl (any_of HT_.out (by kernel_rfl)) (fun _ _ _ h => h) (Or.inl ⟨by rfl, ?_⟩) ?_ ?_
                rotate_left
                ·intro w'
                 go_simp
                 with_reducible rfl
                rotate_left
                ·simp only [Act.put, List.setIfInBounds_toArray, List.set_cons_zero, List.set_cons_succ, i64_w, i32_w]
                 rfl
                refine pure_ (i := 7) (N := some 105) (v := ?_) (a' := ?_) #[true, true, true, true, true, true, true, true, false, true, false, false] rfl rfl (any_of HT_.out (by kernel_rfl)) (fun _ _ _ h => h) (Or.inl ⟨by rfl, ?_⟩) ?_ ?_
                rotate_left
                ·intro w'
                 go_simp
                 with_reducible rfl
                rotate_left
                ·simp only [Act.put, List.setIfInBounds_toArray, List.set_cons_zero, List.set_cons_succ, i64_w, i32_w]
                 rfl
                refine pure_ (i := 8) (N := some 106) (v := ?_) (a' := ?_) #[true, true, true, true, true, true, true, true, true, true, false, false] rfl rfl (any_of HT_.out (by kernel_rfl)) (fun _ _ _ h => h) (Or.inl ⟨by rfl, ?_⟩) ?_ ?_
                rotate_left
                ·intro w'
                 go_simp
                 with_reducible rfl
                rotate_left
                ·simp only [Act.put, List.setIfInBounds_toArray, List.set_cons_zero, List.set_cons_succ, i64_w, i32_w]
                 rfl
                exact norm_ (by simp only [putAll, Act.put, List.setIfInBounds_toArray, List.set_cons_zero, List.set_cons_succ]) (hCont (.slice Ao180 t374.length co180, .slice Ao181 t378.length co181, v383, gb386) _ ⟨hHeld, (uR (Kd.R_mono HO376.out (fun _ hk => ⟨hk.1.2, ⟨hk.2, ⟨hk.1.1.1.1.1.2, ⟨hk.1.1.1.1.2, ⟨hk.1.1.1.2, hk.1.1.2⟩⟩⟩⟩⟩))), (uR (Kd.R_mono HO380.out (fun _ hk => ⟨hk.1.2, ⟨hk.2, ⟨hk.1.1.1.1.1.2, ⟨hk.1.1.1.1.2, ⟨hk.1.1.1.2, hk.1.1.2⟩⟩⟩⟩⟩))), (uR (Kd.R_mono HO384.out (fun _ hk => ⟨hk.1.2, ⟨hk.2, ⟨hk.1.1.1.1.1.2, ⟨hk.1.1.1.1.2, ⟨hk.1.1.1.2, hk.1.1.2⟩⟩⟩⟩⟩))), (uR (Kd.R_mono HO_338001.out (fun _ hk => ⟨hk.1.1.2, ⟨hk.1.2, ⟨hk.2, ⟨hk.1.1.1.1, ⟨hk.1.1.1.2.1, hk.1.1.1.2.2⟩⟩⟩⟩⟩))), (uR (Kd.R_mono HO_343001.out (fun _ hk => ⟨hk.1.1.2, ⟨hk.1.2, ⟨hk.2, ⟨hk.1.1.1.1, ⟨hk.1.1.1.2.1, hk.1.1.1.2.2⟩⟩⟩⟩⟩))), (uR (Kd.R_mono HO_348001.out (fun _ hk => ⟨hk.1.1.2, ⟨hk.1.2, ⟨hk.2, ⟨hk.1.1.1.1, ⟨hk.1.1.1.2.1, hk.1.1.1.2.2⟩⟩⟩⟩⟩))), (uR (Kd.R_mono HO_354001.out (fun _ hk => ⟨hk.1.1.2, ⟨hk.1.2, ⟨hk.2, ⟨hk.1.1.1.1, ⟨hk.1.1.1.2.1, hk.1.1.1.2.2⟩⟩⟩⟩⟩))), (uB BK320.out), (uB BK321.out), (uB BK337.out), (uB BK342.out), (uB BK347.out), (uB BK353.out), (uB BK386.out), GW386.out, GE386.out, NB320_386.out, NB386_320.out, NB321_386.out, NB386_321.out, NB337_386.out, NB386_337.out, NB342_386.out, NB386_342.out, NB347_386.out, NB386_347.out, NB353_386.out, NB386_353.out, (uH HB.out)⟩)
              ·skip
               refine box_step ?hg (N := 17) ?hd (cs := #[.int .i64 0, .slice none 0 0]) (t := 36) ?hr ?_; (case hd => rfl); (case hg => rfl); (case hr => first | (go_simp; done) | (go_simp; rfl))
               intro gb386 hg w177 hbox hb
               have n0_ := xR HO_338001 hb
               have n1_ := xR HO_343001 hb
               have n2_ := xR HO_348001 hb
               have n3_ := xR HO_354001 hb
               have n4_ := xB BK320 hb
               have n5_ := xB BK321 hb
               have n6_ := xB BK337 hb
               have n7_ := xB BK342 hb
               have n8_ := xB BK347 hb
               have n9_ := xB BK353 hb
               have n10_ := xH HB hb
               have n11_ := zA (hbox)
               have n12_ := zA ((by rw [hg]; exact (below_size (uH HB.out)) : w.heap.size ≤ gb386))
               have n13_ := zA ((by rw [hg]; exact (below_size (uH HB.out)) : w.heap.size ≤ gb386))
               have n14_ := zA ((by rw [hg]; exact neL BK320 : gb320 ≠ gb386))
               have n15_ := zA ((by rw [hg]; exact neG BK320 : gb386 ≠ gb320))
               have n16_ := zA ((by rw [hg]; exact neL BK321 : gb321 ≠ gb386))
               have n17_ := zA ((by rw [hg]; exact neG BK321 : gb386 ≠ gb321))
               have n18_ := zA ((by rw [hg]; exact neL BK337 : gb337 ≠ gb386))
               have n19_ := zA ((by rw [hg]; exact neG BK337 : gb386 ≠ gb337))
               have n20_ := zA ((by rw [hg]; exact neL BK342 : gb342 ≠ gb386))
               have n21_ := zA ((by rw [hg]; exact neG BK342 : gb386 ≠ gb342))
               have n22_ := zA ((by rw [hg]; exact neL BK347 : gb347 ≠ gb386))
               have n23_ := zA ((by rw [hg]; exact neG BK347 : gb386 ≠ gb347))
               have n24_ := zA ((by rw [hg]; exact neL BK353 : gb353 ≠ gb386))
               have n25_ := zA ((by rw [hg]; exact neG BK353 : gb386 ≠ gb353))
               clear HO_338001 HO_343001 HO_348001 HO_354001 BK320 BK321 BK337 BK342 BK347 BK353 HB
               have HO_338001 := n0_; have HO_343001 := n1_; have HO_348001 := n2_; have HO_354001 := n3_; have BK320 := n4_; have BK321 := n5_; have BK337 := n6_; have BK342 := n7_; have BK347 := n8_; have BK353 := n9_; have HB := n10_; have BK386 := n11_; have GW386 := n12_
               have GE386 := n13_; have := geI GE386; have NB320_386 := n14_; have NB386_320 := n15_; have NB321_386 := n16_; have NB386_321 := n17_; have NB337_386 := n18_; have NB386_337 := n19_; have NB342_386 := n20_; have NB386_342 := n21_; have NB347_386 := n22_; have NB386_347 := n23_; have NB353_386 := n24_; have NB386_353 := n25_
               clear n0_ n1_ n2_ n3_ n4_ n5_ n6_ n7_ n8_ n9_ n10_ n11_ n12_ n13_ n14_ n15_ n16_ n17_ n18_ n19_ n20_ n21_ n22_ n23_ n24_ n25_
               clear hb hbox hg
               refine hK.out _ _ ⟨(blk_cell BK320.out 0).trans rfl, (blk_cell BK320.out 1).trans rfl, (blk_cell BK321.out 0).trans rfl, (blk_cell BK321.out 1).trans rfl⟩ (fun hHeld => ?_)
               clear hK K
               refine norm_ (a' := ?_) ?_ ?_
               rotate_left
               ·show Act.put _ (some 17) _ = _
                simp only [Act.put, List.setIfInBounds_toArray, List.set_cons_zero, List.set_cons_succ, i64_w, i32_w]
                rfl
               refine one_ (i := 1) (N := some 100) #[true, true, true, false, true, false, false, false, false, true, false, false] rfl rfl (one_of HT_.out (by kernel_rfl)) (by decide) (fun K hK => ?_)
               refine goes_ Try.func16 (by kernel_rfl) rfl #[.agg #[.int .i64 a0_0, .slice A0_1 l0_1.length c0_1]] (by rfl) rfl rfl (by (try simp only [List.map_toArray, List.map_cons, List.map_nil]); first | done | rfl | (simp only [List.length_drop, List.length_take]; rfl)) ?_
               with_reducible refine (laws_toMoments.calls kj108 a0_0 _ _ l0_1 t373 t374 _ ?side1 ?side2 A163.out).mono ?_
               (case side1 => exact uC ((Kd.C_below HR0_1.out HB.out)))
               (case side2 => exact HC0_1.out)
               rintro e w178 ⟨v375, rfl, ho0, hb⟩
               refine ⟨_, rfl, ?_⟩
               have n0_ := zA (Kd.R_elder' (uR HO_338001.out) (Kd.R_base ho0) hb)
               have n1_ := zA (Kd.R_elder' (uR HO_343001.out) (Kd.R_base ho0) hb)
               have n2_ := zA (Kd.R_elder' (uR HO_348001.out) (Kd.R_base ho0) hb)
               have n3_ := zA (Kd.R_elder' (uR HO_354001.out) (Kd.R_base ho0) hb)
               have n4_ := zA (Kd.R_lower (Kd.R_new' (Kd.R_new' (Kd.R_new' (Kd.R_new' ho0 (Kd.R_lt (uR HO_338001.out))) (Kd.R_lt (uR HO_343001.out))) (Kd.R_lt (uR HO_348001.out))) (Kd.R_lt (uR HO_354001.out))) (below_size (uH HB.out)))
               have n5_ := xB BK320 hb
               have n6_ := xB BK321 hb
               have n7_ := xB BK337 hb
               have n8_ := xB BK342 hb
               have n9_ := xB BK347 hb
               have n10_ := xB BK353 hb
               have n11_ := xB BK386 hb
               have n12_ := xH HB hb
               clear HO_338001 HO_343001 HO_348001 HO_354001 BK320 BK321 BK337 BK342 BK347 BK353 BK386 HB
               have HO_338001 := n0_; have HO_343001 := n1_; have HO_348001 := n2_; have HO_354001 := n3_; have HO376 := n4_; have BK320 := n5_; have BK321 := n6_; have BK337 := n7_; have BK342 := n8_; have BK347 := n9_; have BK353 := n10_; have BK386 := n11_; have HB := n12_
               clear n0_ n1_ n2_ n3_ n4_ n5_ n6_ n7_ n8_ n9_ n10_ n11_ n12_
               (try clear hb); (try clear hb2); (try clear hk); (try clear hi); (try clear ho0)
               refine hK.out _ _ ⟨(blk_cell BK320.out 0).trans rfl, (blk_cell BK320.out 1).trans rfl, (blk_cell BK321.out 0).trans rfl, (blk_cell BK321.out 1).trans rfl⟩ (fun hHeld => ?_)
               clear hK K
               refine norm_ (a' := ?_) ?_ ?_
               rotate_left
               ·show Act.put _ (some 100) _ = _
                simp only [Act.put, List.setIfInBounds_toArray, List.set_cons_zero, List.set_cons_succ, i64_w, i32_w]
                rfl
               refine one_ (i := 3) (N := some 102) #[true, true, true, true, true, false, false, false, false, true, false, false] rfl rfl (one_of HT_.out (by kernel_rfl)) (by decide) (fun K hK => ?_)
               refine goes_ Try.func16 (by kernel_rfl) rfl #[.agg #[.int .i64 a1_0, .slice A1_1 l1_1.length c1_1]] (by rfl) rfl rfl (by (try simp only [List.map_toArray, List.map_cons, List.map_nil]); first | done | rfl | (simp only [List.length_drop, List.length_take]; rfl)) ?_
               with_reducible refine (laws_toMoments.calls kj108 a1_0 _ _ l1_1 t377 t378 _ ?side1 ?side2 A164.out).mono ?_
               (case side1 => exact uC ((Kd.C_below HR1_1.out HB.out)))
               (case side2 => exact HC1_1.out)
               rintro e w179 ⟨v379, rfl, ho0, hb⟩
               refine ⟨_, rfl, ?_⟩
               have n0_ := zA (Kd.R_elder' (uR HO_338001.out) (Kd.R_base ho0) hb)
               have n1_ := zA (Kd.R_elder' (uR HO_343001.out) (Kd.R_base ho0) hb)
               have n2_ := zA (Kd.R_elder' (uR HO_348001.out) (Kd.R_base ho0) hb)
               have n3_ := zA (Kd.R_elder' (uR HO_354001.out) (Kd.R_base ho0) hb)
               have n4_ := zA (Kd.R_elder' (uR HO376.out) (Kd.R_base ho0) hb)
               have n5_ := zA (Kd.R_lower (Kd.R_new' (Kd.R_new' (Kd.R_new' (Kd.R_new' (Kd.R_new' ho0 (Kd.R_lt (uR HO_338001.out))) (Kd.R_lt (uR HO_343001.out))) (Kd.R_lt (uR HO_348001.out))) (Kd.R_lt (uR HO_354001.out))) (Kd.R_lt (uR HO376.out))) (below_size (uH HB.out)))
               have n6_ := xB BK320 hb
               have n7_ := xB BK321 hb
               have n8_ := xB BK337 hb
               have n9_ := xB BK342 hb
               have n10_ := xB BK347 hb
               have n11_ := xB BK353 hb
               have n12_ := xB BK386 hb
               have n13_ := xH HB hb
               clear HO_338001 HO_343001 HO_348001 HO_354001 HO376 BK320 BK321 BK337 BK342 BK347 BK353 BK386 HB
               have HO_338001 := n0_; have HO_343001 := n1_; have HO_348001 := n2_; have HO_354001 := n3_; have HO376 := n4_; have HO380 := n5_; have BK320 := n6_; have BK321 := n7_; have BK337 := n8_; have BK342 := n9_; have BK347 := n10_; have BK353 := n11_; have BK386 := n12_; have HB := n13_
               clear n0_ n1_ n2_ n3_ n4_ n5_ n6_ n7_ n8_ n9_ n10_ n11_ n12_ n13_
               (try clear hb); (try clear hb2); (try clear hk); (try clear hi); (try clear ho0)
               obtain ⟨Ao180, co180, eo180⟩ := Kd.R_slice HO376.out
               (first | subst eo180 | (injection eo180 with f1_ f2_ f3_; have f4_ := f1_.symm; have f5_ := f3_.symm; clear f1_ f2_ f3_; subst f4_; subst f5_))
               obtain ⟨Ao181, co181, eo181⟩ := Kd.R_slice HO380.out
               (first | subst eo181 | (injection eo181 with f1_ f2_ f3_; have f4_ := f1_.symm; have f5_ := f3_.symm; clear f1_ f2_ f3_; subst f4_; subst f5_))
               refine hK.out _ _ ⟨(blk_cell BK320.out 0).trans rfl, (blk_cell BK320.out 1).trans rfl, (blk_cell BK321.out 0).trans rfl, (blk_cell BK321.out 1).trans rfl⟩ (fun hHeld => ?_)
               clear hK K
               refine norm_ (a' := ?_) ?_ ?_
               rotate_left
               ·show Act.put _ (some 102) _ = _
                simp only [Act.put, List.setIfInBounds_toArray, List.set_cons_zero, List.set_cons_succ, i64_w, i32_w]
                rfl
               refine one_ (i := 5) (N := some 104) #[true, true, true, true, true, true, false, false, false, true, false, false] rfl rfl (one_of HT_.out (by kernel_rfl)) (by decide) (fun K hK => ?_)
               refine goes_ Try.func22 (by kernel_rfl) rfl #[.agg #[.int .i64 t373, .slice Ao180 t374.length co180], .agg #[.int .i64 t377, .slice Ao181 t378.length co181], .int .i64 a2] (by rfl) rfl rfl (by (try simp only [List.map_toArray, List.map_cons, List.map_nil]); first | done | rfl | (simp only [List.length_drop, List.length_take]; rfl)) ?_
               with_reducible refine (impl_AddMoments.calls kj108 t373 _ _ t374 t377 _ _ t378 a2 t381 t382 t385 _ ?side1 ?side2 ?side3 ?side4 A165.out).mono ?_
               (case side1 => exact uC ((Kd.R_reads' HO376.out).2.2))
               (case side2 => exact (Kd.R_reads' HO376.out).2.1)
               (case side3 => exact uC ((Kd.R_reads' HO380.out).2.2))
               (case side4 => exact (Kd.R_reads' HO380.out).2.1)
               rintro e w182 ⟨v383, rfl, ho0, hb⟩
               refine ⟨_, rfl, ?_⟩
               have n0_ := zA (Kd.R_elder' (uR HO_338001.out) (Kd.R_base ho0) hb)
               have n1_ := zA (Kd.R_elder' (uR HO_343001.out) (Kd.R_base ho0) hb)
               have n2_ := zA (Kd.R_elder' (uR HO_348001.out) (Kd.R_base ho0) hb)
               have n3_ := zA (Kd.R_elder' (uR HO_354001.out) (Kd.R_base ho0) hb)
               have n4_ := zA (Kd.R_elder' (uR HO376.out) (Kd.R_base ho0) hb)
               have n5_ := zA (Kd.R_elder' (uR HO380.out) (Kd.R_base ho0) hb)
               have n6_ := zA (Kd.R_lower (Kd.R_new' (Kd.R_new' (Kd.R_new' (Kd.R_new' (Kd.R_new' (Kd.R_new' ho0 (Kd.R_lt (uR HO_338001.out))) (Kd.R_lt (uR HO_343001.out))) (Kd.R_lt (uR HO_348001.out))) (Kd.R_lt (uR HO_354001.out))) (Kd.R_lt (uR HO376.out))) (Kd.R_lt (uR HO380.out))) (below_size (uH HB.out)))
               have n7_ := xB BK320 hb
               have n8_ := xB BK321 hb
               have n9_ := xB BK337 hb
               have n10_ := xB BK342 hb
               have n11_ := xB BK347 hb
               have n12_ := xB BK353 hb
               have n13_ := xB BK386 hb
               have n14_ := xH HB hb
               clear HO_338001 HO_343001 HO_348001 HO_354001 HO376 HO380 BK320 BK321 BK337 BK342 BK347 BK353 BK386 HB
               have HO_338001 := n0_; have HO_343001 := n1_; have HO_348001 := n2_; have HO_354001 := n3_; have HO376 := n4_; have HO380 := n5_; have HO384 := n6_; have BK320 := n7_; have BK321 := n8_; have BK337 := n9_; have BK342 := n10_; have BK347 := n11_; have BK353 := n12_; have BK386 := n13_; have HB := n14_
               clear n0_ n1_ n2_ n3_ n4_ n5_ n6_ n7_ n8_ n9_ n10_ n11_ n12_ n13_ n14_
               (try clear hb); (try clear hb2); (try clear hk); (try clear hi); (try clear ho0)
               refine hK.out _ _ ⟨(blk_cell BK320.out 0).trans rfl, (blk_cell BK320.out 1).trans rfl, (blk_cell BK321.out 0).trans rfl, (blk_cell BK321.out 1).trans rfl⟩ (fun hHeld => ?_)
               clear hK K
               refine norm_ (a' := ?_) ?_ ?_
               rotate_left
               ·show Act.put _ (some 104) _ = _
                simp only [Act.put, List.setIfInBounds_toArray, List.set_cons_zero, List.set_cons_succ, i64_w, i32_w]
                rfl
               refine pure_ (i := 6) (N := some 98) (v := ?_) (a' := ?_) #[true, true, true, true, true, true, true, false, false, true, false, false] rfl rfl (any_of HT_.out (by kernel_rfl)) (fun _ _ _ h => h) (Or.inl ⟨by rfl, ?_⟩) ?_ ?_
               rotate_left
               ·intro w'
                go_simp
                with_reducible rfl
               rotate_left
               ·simp only [Act.put, List.setIfInBounds_toArray, List.set_cons_zero, List.set_cons_succ, i64_w, i32_w]
                rfl
               refine pure_ (i := 7) (N := some 105) (v := ?_) (a' := ?_) #[true, true, true, true, true, true, true, true, false, true, false, false] rfl rfl (any_of HT_.out (by kernel_rfl)) (fun _ _ _ h => h) (Or.inl ⟨by rfl, ?_⟩) ?_ ?_
               rotate_left
               ·intro w'
                go_simp
                with_reducible rfl
               rotate_left
               ·simp only [Act.put, List.setIfInBounds_toArray, List.set_cons_zero, List.set_cons_succ, i64_w, i32_w]
                rfl
               refine pure_ (i := 8) (N := some 106) (v := ?_) (a' := ?_) #[true, true, true, true, true, true, true, true, true, true, false, false] rfl rfl (any_of HT_.out (by kernel_rfl)) (fun _ _ _ h => h) (Or.inl ⟨by rfl, ?_⟩) ?_ ?_
               rotate_left
               ·intro w'
                go_simp
                with_reducible rfl
               rotate_left
               ·simp only [Act.put, List.setIfInBounds_toArray, List.set_cons_zero, List.set_cons_succ, i64_w, i32_w]
                rfl
               exact norm_ (by simp only [putAll, Act.put, List.setIfInBounds_toArray, List.set_cons_zero, List.set_cons_succ]) (hCont (.slice Ao180 t374.length co180, .slice Ao181 t378.length co181, v383, gb386) _ ⟨hHeld, (uR (Kd.R_mono HO376.out (fun _ hk => ⟨hk.1.2, ⟨hk.2, ⟨hk.1.1.1.1.1.2, ⟨hk.1.1.1.1.2, ⟨hk.1.1.1.2, hk.1.1.2⟩⟩⟩⟩⟩))), (uR (Kd.R_mono HO380.out (fun _ hk => ⟨hk.1.2, ⟨hk.2, ⟨hk.1.1.1.1.1.2, ⟨hk.1.1.1.1.2, ⟨hk.1.1.1.2, hk.1.1.2⟩⟩⟩⟩⟩))), (uR (Kd.R_mono HO384.out (fun _ hk => ⟨hk.1.2, ⟨hk.2, ⟨hk.1.1.1.1.1.2, ⟨hk.1.1.1.1.2, ⟨hk.1.1.1.2, hk.1.1.2⟩⟩⟩⟩⟩))), (uR (Kd.R_mono HO_338001.out (fun _ hk => ⟨hk.1.1.2, ⟨hk.1.2, ⟨hk.2, ⟨hk.1.1.1.1, ⟨hk.1.1.1.2.1, hk.1.1.1.2.2⟩⟩⟩⟩⟩))), (uR (Kd.R_mono HO_343001.out (fun _ hk => ⟨hk.1.1.2, ⟨hk.1.2, ⟨hk.2, ⟨hk.1.1.1.1, ⟨hk.1.1.1.2.1, hk.1.1.1.2.2⟩⟩⟩⟩⟩))), (uR (Kd.R_mono HO_348001.out (fun _ hk => ⟨hk.1.1.2, ⟨hk.1.2, ⟨hk.2, ⟨hk.1.1.1.1, ⟨hk.1.1.1.2.1, hk.1.1.1.2.2⟩⟩⟩⟩⟩))), (uR (Kd.R_mono HO_354001.out (fun _ hk => ⟨hk.1.1.2, ⟨hk.1.2, ⟨hk.2, ⟨hk.1.1.1.1, ⟨hk.1.1.1.2.1, hk.1.1.1.2.2⟩⟩⟩⟩⟩))), (uB BK320.out), (uB BK321.out), (uB BK337.out), (uB BK342.out), (uB BK347.out), (uB BK353.out), (uB BK386.out), GW386.out, GE386.out, NB320_386.out, NB386_320.out, NB321_386.out, NB386_321.out, NB337_386.out, NB386_337.out, NB342_386.out, NB386_342.out, NB347_386.out, NB386_347.out, NB353_386.out, NB386_353.out, (uH HB.out)⟩)
             rintro ⟨v375, v379, v383, gb386⟩ w183 ⟨hS_, h0_, h1_, h2_, h3_, h4_, h5_, h6_, h7_, h8_, h9_, h10_, h11_, h12_, h13_, h14_, h15_, h16_, h17_, h18_, h19_, h20_, h21_, h22_, h23_, h24_, h25_, h26_, h27_, h28_⟩
             have n0_ : Aside0 (Kd.R (Kd.int .i64) 2 w183 w.heap.size (fun k_ => some k_ ≠ (v379 : Value).ownBlock ∧ some k_ ≠ (v383 : Value).ownBlock ∧ some k_ ≠ (.slice Ao43 t333.length co43 : Value).ownBlock ∧ some k_ ≠ (.slice Ao53 t366.length co53 : Value).ownBlock ∧ some k_ ≠ (.slice Ao63 t368.length co63 : Value).ownBlock ∧ some k_ ≠ (.slice Ao73 t349.length co73 : Value).ownBlock) v375 t374) := ⟨h0_⟩
             have n1_ : Aside0 (Kd.R (Kd.int .i64) 2 w183 w.heap.size (fun k_ => some k_ ≠ (v375 : Value).ownBlock ∧ some k_ ≠ (v383 : Value).ownBlock ∧ some k_ ≠ (.slice Ao43 t333.length co43 : Value).ownBlock ∧ some k_ ≠ (.slice Ao53 t366.length co53 : Value).ownBlock ∧ some k_ ≠ (.slice Ao63 t368.length co63 : Value).ownBlock ∧ some k_ ≠ (.slice Ao73 t349.length co73 : Value).ownBlock) v379 t378) := ⟨h1_⟩
             have n2_ : Aside0 (Kd.R (Kd.int .i64) 2 w183 w.heap.size (fun k_ => some k_ ≠ (v375 : Value).ownBlock ∧ some k_ ≠ (v379 : Value).ownBlock ∧ some k_ ≠ (.slice Ao43 t333.length co43 : Value).ownBlock ∧ some k_ ≠ (.slice Ao53 t366.length co53 : Value).ownBlock ∧ some k_ ≠ (.slice Ao63 t368.length co63 : Value).ownBlock ∧ some k_ ≠ (.slice Ao73 t349.length co73 : Value).ownBlock) v383 t382) := ⟨h2_⟩
             have n3_ : Aside0 (Kd.R (Kd.int .i64) 2 w183 w.heap.size (fun k_ => some k_ ≠ (v375 : Value).ownBlock ∧ some k_ ≠ (v379 : Value).ownBlock ∧ some k_ ≠ (v383 : Value).ownBlock ∧ some k_ ≠ (.slice Ao53 t366.length co53 : Value).ownBlock ∧ some k_ ≠ (.slice Ao63 t368.length co63 : Value).ownBlock ∧ some k_ ≠ (.slice Ao73 t349.length co73 : Value).ownBlock) (.slice Ao43 t333.length co43) t333) := ⟨h3_⟩
             have n4_ : Aside0 (Kd.R (Kd.int .i64) 2 w183 w.heap.size (fun k_ => some k_ ≠ (v375 : Value).ownBlock ∧ some k_ ≠ (v379 : Value).ownBlock ∧ some k_ ≠ (v383 : Value).ownBlock ∧ some k_ ≠ (.slice Ao43 t333.length co43 : Value).ownBlock ∧ some k_ ≠ (.slice Ao63 t368.length co63 : Value).ownBlock ∧ some k_ ≠ (.slice Ao73 t349.length co73 : Value).ownBlock) (.slice Ao53 t366.length co53) t366) := ⟨h4_⟩
             have n5_ : Aside0 (Kd.R (Kd.int .i64) 2 w183 w.heap.size (fun k_ => some k_ ≠ (v375 : Value).ownBlock ∧ some k_ ≠ (v379 : Value).ownBlock ∧ some k_ ≠ (v383 : Value).ownBlock ∧ some k_ ≠ (.slice Ao43 t333.length co43 : Value).ownBlock ∧ some k_ ≠ (.slice Ao53 t366.length co53 : Value).ownBlock ∧ some k_ ≠ (.slice Ao73 t349.length co73 : Value).ownBlock) (.slice Ao63 t368.length co63) t368) := ⟨h5_⟩
             have n6_ : Aside0 (Kd.R (Kd.int .i64) 2 w183 w.heap.size (fun k_ => some k_ ≠ (v375 : Value).ownBlock ∧ some k_ ≠ (v379 : Value).ownBlock ∧ some k_ ≠ (v383 : Value).ownBlock ∧ some k_ ≠ (.slice Ao43 t333.length co43 : Value).ownBlock ∧ some k_ ≠ (.slice Ao53 t366.length co53 : Value).ownBlock ∧ some k_ ≠ (.slice Ao63 t368.length co63 : Value).ownBlock) (.slice Ao73 t349.length co73) t371) := ⟨h6_⟩
             have n7_ : Aside0 (w183.heap[gb320]? = some (.cells #[.int .i64 a0_0, .slice A0_1 l0_1.length c0_1] 32 (0, 0))) := ⟨h7_⟩
             have n8_ : Aside0 (w183.heap[gb321]? = some (.cells #[.int .i64 a1_0, .slice A1_1 l1_1.length c1_1] 32 (0, 0))) := ⟨h8_⟩
             have n9_ : Aside0 (w183.heap[gb337]? = some (.cells #[.int .i64 t332, .slice Ao43 t333.length co43] 36 (0, 0))) := ⟨h9_⟩
             have n10_ : Aside0 (w183.heap[gb342]? = some (.cells #[.int .i64 t338, .slice Ao53 t366.length co53] 36 (0, 0))) := ⟨h10_⟩
             have n11_ : Aside0 (w183.heap[gb347]? = some (.cells #[.int .i64 t343, .slice Ao63 t368.length co63] 36 (0, 0))) := ⟨h11_⟩
             have n12_ : Aside0 (w183.heap[gb353]? = some (.cells #[.int .i64 t348, .slice Ao73 t349.length co73] 36 (0, 0))) := ⟨h12_⟩
             have n13_ : Aside0 (w183.heap[gb386]? = some (.cells #[.int .i64 0, .slice none 0 0] 36 (0, 0))) := ⟨h13_⟩
             have n14_ : Aside0 (w.heap.size ≤ gb386) := ⟨h14_⟩
             have n15_ : Aside0 (w.heap.size ≤ gb386) := ⟨h15_⟩
             have n16_ : Aside0 (gb320 ≠ gb386) := ⟨h16_⟩
             have n17_ : Aside0 (gb386 ≠ gb320) := ⟨h17_⟩
             have n18_ : Aside0 (gb321 ≠ gb386) := ⟨h18_⟩
             have n19_ : Aside0 (gb386 ≠ gb321) := ⟨h19_⟩
             have n20_ : Aside0 (gb337 ≠ gb386) := ⟨h20_⟩
             have n21_ : Aside0 (gb386 ≠ gb337) := ⟨h21_⟩
             have n22_ : Aside0 (gb342 ≠ gb386) := ⟨h22_⟩
             have n23_ : Aside0 (gb386 ≠ gb342) := ⟨h23_⟩
             have n24_ : Aside0 (gb347 ≠ gb386) := ⟨h24_⟩
             have n25_ : Aside0 (gb386 ≠ gb347) := ⟨h25_⟩
             have n26_ : Aside0 (gb353 ≠ gb386) := ⟨h26_⟩
             have n27_ : Aside0 (gb386 ≠ gb353) := ⟨h27_⟩
             have n28_ : Aside0 (Below w.heap.size w w183) := ⟨h28_⟩
             clear HO_338001 HO_343001 HO_348001 HO_354001 BK320 BK321 BK337 BK342 BK347 BK353 HB
             clear h0_ h1_ h2_ h3_ h4_ h5_ h6_ h7_ h8_ h9_ h10_ h11_ h12_ h13_ h14_ h15_ h16_ h17_ h18_ h19_ h20_ h21_ h22_ h23_ h24_ h25_ h26_ h27_ h28_
             have HO376 := n0_; have HO380 := n1_; have HO384 := n2_; have HO_338001 := n3_; have HO_343001 := n4_; have HO_348001 := n5_; have HO_354001 := n6_; have BK320 := n7_; have BK321 := n8_; have BK337 := n9_; have BK342 := n10_; have BK347 := n11_; have BK353 := n12_; have BK386 := n13_; have GW386 := n14_
             have GE386 := n15_; have := geI GE386; have NB320_386 := n16_; have NB386_320 := n17_; have NB321_386 := n18_; have NB386_321 := n19_; have NB337_386 := n20_; have NB386_337 := n21_; have NB342_386 := n22_; have NB386_342 := n23_; have NB347_386 := n24_; have NB386_347 := n25_; have NB353_386 := n26_; have NB386_353 := n27_; have HB := n28_
             clear n0_ n1_ n2_ n3_ n4_ n5_ n6_ n7_ n8_ n9_ n10_ n11_ n12_ n13_ n14_ n15_ n16_ n17_ n18_ n19_ n20_ n21_ n22_ n23_ n24_ n25_ n26_ n27_ n28_
             have hHeld : w183.cell? ⟨gb320, 0, none⟩ = some (.int .i64 a0_0) ∧ w183.cell? ⟨gb320, 1, none⟩ = some (.slice A0_1 l0_1.length c0_1) ∧ w183.cell? ⟨gb321, 0, none⟩ = some (.int .i64 a1_0) ∧ w183.cell? ⟨gb321, 1, none⟩ = some (.slice A1_1 l1_1.length c1_1) := hS_
             obtain ⟨Ao185, co185, eo185⟩ := Kd.R_slice HO384.out
             (first | subst eo185 | (injection eo185 with f1_ f2_ f3_; have f4_ := f1_.symm; have f5_ := f3_.symm; clear f1_ f2_ f3_; subst f4_; subst f5_))
             refine norm_ (a' := ?_) ?_ ?_
             rotate_left
             ·simp only [putAll, Act.put, List.setIfInBounds_toArray, List.set_cons_zero, List.set_cons_succ]
              rfl
             refine one_ (i := 10) (N := none) #[true, true, true, true, true, true, true, true, true, true, true, false] rfl rfl (one_of HT_.out (by kernel_rfl)) (by decide) (fun K hK => ?_)
             have hs184 : w183.cell? ⟨gb386, 0, none⟩ = some (.int .i64 0) := (blk_cell BK386.out 0).trans rfl
             have hfs184 := blk_frozen BK386.out 0
             have hns184_0 := NB320_386.out; have hns184_1 := NB321_386.out; have hns184_2 := NB337_386.out; have hns184_3 := NB342_386.out; have hns184_4 := NB347_386.out; have hns184_5 := NB353_386.out; have hms184_0 := NB386_320.out; have hms184_1 := NB386_321.out; have hms184_2 := NB386_337.out; have hms184_3 := NB386_342.out; have hms184_4 := NB386_347.out; have hms184_5 := NB386_353.out
             have hs186 : w183.cell? ⟨gb386, 1, none⟩ = some (.slice none 0 0) := (blk_cell BK386.out 1).trans rfl
             have hfs186 := blk_frozen BK386.out 1
             have hns186_0 := NB320_386.out; have hns186_1 := NB321_386.out; have hns186_2 := NB337_386.out; have hns186_3 := NB342_386.out; have hns186_4 := NB347_386.out; have hns186_5 := NB353_386.out; have hms186_0 := NB386_320.out; have hms186_1 := NB386_321.out; have hms186_2 := NB386_337.out; have hms186_3 := NB386_342.out; have hms186_4 := NB386_347.out; have hms186_5 := NB386_353.out
             refine skip_ (w1 := ?_) (by rfl) rfl ?_ ?_
             rotate_left
             ·go_simp
              rfl
             refine hK.out _ _ ⟨((cell_far (p := ⟨gb386, _, none⟩) NB320_386.out _).trans (((cell_far (p := ⟨gb386, _, none⟩) NB320_386.out _).trans (hHeld.1)))), ((cell_far (p := ⟨gb386, _, none⟩) NB320_386.out _).trans (((cell_far (p := ⟨gb386, _, none⟩) NB320_386.out _).trans (hHeld.2.1)))), ((cell_far (p := ⟨gb386, _, none⟩) NB321_386.out _).trans (((cell_far (p := ⟨gb386, _, none⟩) NB321_386.out _).trans (hHeld.2.2.1)))), ((cell_far (p := ⟨gb386, _, none⟩) NB321_386.out _).trans (((cell_far (p := ⟨gb386, _, none⟩) NB321_386.out _).trans (hHeld.2.2.2))))⟩ (fun hHeld => ?_)
             clear hK K
             refine pure_ (i := 11) (N := some 18) (v := ?_) (a' := ?_) #[true, true, true, true, true, true, true, true, true, true, true, true] rfl rfl (any_of HT_.out (by kernel_rfl)) (fun _ _ _ h => h) (Or.inl ⟨by rfl, ?_⟩) ?_ ?_
             rotate_left
             ·intro w'
              go_simp
              with_reducible rfl
             rotate_left
             ·simp only [Act.put, List.setIfInBounds_toArray, List.set_cons_zero, List.set_cons_succ, i64_w, i32_w]
              rfl
             refine done_ (done_of HT_.out (by kernel_rfl)) ?_
             go_upto_region 32 with (fail)
             go_cut [115] (fun v115 wc => ∃ (kq : Nat) (x115_165 : Bool), v115 = .bool x115_165 ∧ Aside0 (laws_FnExactAddMoments.j2 kq t370 x115_165 t348 t371 = some r) ∧ Aside0 (kq ≤ kj108) ∧ Aside0 (Kd.R (Kd.int .i64) 2 wc w.heap.size (fun k_ => some k_ ≠ ((.slice Ao53 t366.length co53) : Value).ownBlock ∧ some k_ ≠ ((.slice Ao63 t368.length co63) : Value).ownBlock ∧ some k_ ≠ ((.slice Ao73 t349.length co73) : Value).ownBlock ∧ some k_ ≠ ((.slice Ao185 t382.length co185) : Value).ownBlock) (.slice Ao43 t333.length co43) t333) ∧ Aside0 (Kd.R (Kd.int .i64) 2 wc w.heap.size (fun k_ => some k_ ≠ ((.slice Ao43 t333.length co43) : Value).ownBlock ∧ some k_ ≠ ((.slice Ao63 t368.length co63) : Value).ownBlock ∧ some k_ ≠ ((.slice Ao73 t349.length co73) : Value).ownBlock ∧ some k_ ≠ ((.slice Ao185 t382.length co185) : Value).ownBlock) (.slice Ao53 t366.length co53) t366) ∧ Aside0 (Kd.R (Kd.int .i64) 2 wc w.heap.size (fun k_ => some k_ ≠ ((.slice Ao43 t333.length co43) : Value).ownBlock ∧ some k_ ≠ ((.slice Ao53 t366.length co53) : Value).ownBlock ∧ some k_ ≠ ((.slice Ao73 t349.length co73) : Value).ownBlock ∧ some k_ ≠ ((.slice Ao185 t382.length co185) : Value).ownBlock) (.slice Ao63 t368.length co63) t368) ∧ Aside0 (Kd.R (Kd.int .i64) 2 wc w.heap.size (fun k_ => some k_ ≠ ((.slice Ao43 t333.length co43) : Value).ownBlock ∧ some k_ ≠ ((.slice Ao53 t366.length co53) : Value).ownBlock ∧ some k_ ≠ ((.slice Ao63 t368.length co63) : Value).ownBlock ∧ some k_ ≠ ((.slice Ao185 t382.length co185) : Value).ownBlock) (.slice Ao73 t349.length co73) t371) ∧ Aside0 (Kd.R (Kd.int .i64) 2 wc w.heap.size (fun k_ => some k_ ≠ ((.slice Ao43 t333.length co43) : Value).ownBlock ∧ some k_ ≠ ((.slice Ao53 t366.length co53) : Value).ownBlock ∧ some k_ ≠ ((.slice Ao63 t368.length co63) : Value).ownBlock ∧ some k_ ≠ ((.slice Ao73 t349.length co73) : Value).ownBlock) (.slice Ao185 t382.length co185) t382) ∧ Aside0 (wc.heap[gb320]? = some (.cells #[.int .i64 a0_0, (.slice A0_1 l0_1.length c0_1)] 32 (0, 0))) ∧ Aside0 (wc.heap[gb321]? = some (.cells #[.int .i64 a1_0, (.slice A1_1 l1_1.length c1_1)] 32 (0, 0))) ∧ Aside0 (wc.heap[gb337]? = some (.cells #[.int .i64 t332, (.slice Ao43 t333.length co43)] 36 (0, 0))) ∧ Aside0 (wc.heap[gb342]? = some (.cells #[.int .i64 t338, (.slice Ao53 t366.length co53)] 36 (0, 0))) ∧ Aside0 (wc.heap[gb347]? = some (.cells #[.int .i64 t343, (.slice Ao63 t368.length co63)] 36 (0, 0))) ∧ Aside0 (wc.heap[gb353]? = some (.cells #[.int .i64 t348, (.slice Ao73 t349.length co73)] 36 (0, 0))) ∧ Aside0 (wc.heap[gb386]? = some (.cells #[.int .i64 t381, (.slice Ao185 t382.length co185)] 36 (0, 0))) ∧ Aside0 (Below w.heap.size w wc))
             case first =>
              have H := HC166.out
              clear HC166
              replace H := Option.bind_eq_some_iff.mp H
              obtain ⟨t387, A1870, H⟩ := H
              replace H : (if t387 = true then (laws_FnExactAddMoments.j2 kj108 t370 (t385 != t336) t348 t371) else (laws_FnExactAddMoments.j2 kj108 t370 true t348 t371)) = some r := H
              have A187 := zA A1870
              clear A1870
              by_cases c188 : t387 = true
              ·subst c188
               have H1 : (laws_FnExactAddMoments.j2 kj108 t370 (t385 != t336) t348 t371) = some r := by rw [if_pos rfl] at H; exact H
               clear H
               have H := H1
               clear H1
               have H' := zA H
               clear H
               have hnb189 := NB386_320.out; have hnc189 := NB320_386.out; have hnb190 := NB386_321.out; have hnc190 := NB321_386.out; have hnb191 := NB386_337.out; have hnc191 := NB337_386.out; have hnb192 := NB386_342.out; have hnc192 := NB342_386.out; have hnb193 := NB386_347.out; have hnc193 := NB347_386.out; have hnb194 := NB386_353.out; have hnc194 := NB353_386.out
               have hcz195_0 : w183.cell? ⟨gb386, 0, none⟩ = some (.int .i64 0) := (blk_cell BK386.out 0).trans rfl
               have hcz195_1 : w183.cell? ⟨gb386, 1, none⟩ = some (.slice none 0 0) := (blk_cell BK386.out 1).trans rfl
               have hfz195_0 := blk_frozen BK386.out 0
               have hfz195_1 := blk_frozen BK386.out 1
               have hnb196 := NB337_320.out; have hnc196 := NB320_337.out; have hnb197 := NB337_321.out; have hnc197 := NB321_337.out; have hnb198 := NB337_342.out; have hnc198 := NB342_337.out; have hnb199 := NB337_347.out; have hnc199 := NB347_337.out; have hnb200 := NB337_353.out; have hnc200 := NB353_337.out
               have hcz201_0 : w183.cell? ⟨gb337, 0, none⟩ = some (.int .i64 t332) := (blk_cell BK337.out 0).trans rfl
               have hcz201_1 : w183.cell? ⟨gb337, 1, none⟩ = some (.slice Ao43 t333.length co43) := (blk_cell BK337.out 1).trans rfl
               have hfz201_0 := blk_frozen BK337.out 0
               have hfz201_1 := blk_frozen BK337.out 1
               go_wp2_with (first | ((with_reducible refine gate_callee (f := 19) rfl ?_); refine goesL_ (some 109) rfl rfl Try.func19 (by kernel_rfl) rfl #[.agg #[.int .i64 t381, .slice Ao185 t382.length co185], .agg #[.int .i64 t332, .slice Ao43 t333.length co43]] rfl (by (try simp only [List.map_toArray, List.map_cons, List.map_nil]); first | done | rfl | (simp only [List.length_drop, List.length_take]; rfl)) ?_; (with_reducible refine (laws_eqMoments.calls kj108 t381 _ _ t382 t332 _ _ t333 true _ ?side1 ?side2 ?side3 ?side4 A187.out).mono ?_); (case side1 => refine (Kd.R_reads' (e := 2) (base := w.heap.size) (ok := fun k_ => (some k_ ≠ (v375 : Value).ownBlock ∧ (some k_ ≠ (v379 : Value).ownBlock ∧ (some k_ ≠ (.slice Ao43 t333.length co43 : Value).ownBlock ∧ (some k_ ≠ (.slice Ao53 t366.length co53 : Value).ownBlock ∧ (some k_ ≠ (.slice Ao63 t368.length co63 : Value).ownBlock ∧ some k_ ≠ (.slice Ao73 t349.length co73 : Value).ownBlock)))))) (n := t382.length) (c := co185) ?_).2.2; exact (uR ((Kd.R_mono (Kd.R_far (p := ⟨gb386, 1, none⟩) (Kd.R_far (p := ⟨gb386, 0, none⟩) (Kd.R_types HO384.out BK386.out (by decide)) (fun _ hk => hk.2) (.int .i64 t381)) (fun _ hk => hk.2) (.slice Ao185 t382.length co185)) (fun _ h_ => h_.1))))); (case side2 => exact (Kd.R_reads' HO384.out).2.1); (case side3 => refine (Kd.R_reads' (e := 2) (base := w.heap.size) (ok := fun k_ => (some k_ ≠ (v375 : Value).ownBlock ∧ (some k_ ≠ (v379 : Value).ownBlock ∧ (some k_ ≠ (.slice Ao185 t382.length co185 : Value).ownBlock ∧ (some k_ ≠ (.slice Ao53 t366.length co53 : Value).ownBlock ∧ (some k_ ≠ (.slice Ao63 t368.length co63 : Value).ownBlock ∧ some k_ ≠ (.slice Ao73 t349.length co73 : Value).ownBlock)))))) (n := t333.length) (c := co43) ?_).2.2; exact (uR ((Kd.R_mono (Kd.R_far (p := ⟨gb386, 1, none⟩) (Kd.R_far (p := ⟨gb386, 0, none⟩) (Kd.R_types HO_338001.out BK386.out (by decide)) (fun _ hk => hk.2) (.int .i64 t381)) (fun _ hk => hk.2) (.slice Ao185 t382.length co185)) (fun _ h_ => h_.1))))); (case side4 => exact (Kd.R_reads' HO_338001.out).2.1); rintro e w202 ⟨rfl, hb⟩; refine ⟨_, rfl, ?_⟩; have n0_ := zA (Kd.R_below (uR ((Kd.R_mono (Kd.R_far (p := ⟨gb386, 1, none⟩) (Kd.R_far (p := ⟨gb386, 0, none⟩) (Kd.R_types HO_338001.out BK386.out (by decide)) (fun _ hk => hk.2) (.int .i64 t381)) (fun _ hk => hk.2) (.slice Ao185 t382.length co185)) (fun _ h_ => h_.1)))) hb); have n1_ := zA (Kd.R_below (uR ((Kd.R_mono (Kd.R_far (p := ⟨gb386, 1, none⟩) (Kd.R_far (p := ⟨gb386, 0, none⟩) (Kd.R_types HO_343001.out BK386.out (by decide)) (fun _ hk => hk.2) (.int .i64 t381)) (fun _ hk => hk.2) (.slice Ao185 t382.length co185)) (fun _ h_ => h_.1)))) hb); have n2_ := zA (Kd.R_below (uR ((Kd.R_mono (Kd.R_far (p := ⟨gb386, 1, none⟩) (Kd.R_far (p := ⟨gb386, 0, none⟩) (Kd.R_types HO_348001.out BK386.out (by decide)) (fun _ hk => hk.2) (.int .i64 t381)) (fun _ hk => hk.2) (.slice Ao185 t382.length co185)) (fun _ h_ => h_.1)))) hb); have n3_ := zA (Kd.R_below (uR ((Kd.R_mono (Kd.R_far (p := ⟨gb386, 1, none⟩) (Kd.R_far (p := ⟨gb386, 0, none⟩) (Kd.R_types HO_354001.out BK386.out (by decide)) (fun _ hk => hk.2) (.int .i64 t381)) (fun _ hk => hk.2) (.slice Ao185 t382.length co185)) (fun _ h_ => h_.1)))) hb); have n4_ := zA (Kd.R_below (uR ((Kd.R_mono (Kd.R_far (p := ⟨gb386, 1, none⟩) (Kd.R_far (p := ⟨gb386, 0, none⟩) (Kd.R_types HO376.out BK386.out (by decide)) (fun _ hk => hk.2) (.int .i64 t381)) (fun _ hk => hk.2) (.slice Ao185 t382.length co185)) (fun _ h_ => h_.1)))) hb); have n5_ := zA (Kd.R_below (uR ((Kd.R_mono (Kd.R_far (p := ⟨gb386, 1, none⟩) (Kd.R_far (p := ⟨gb386, 0, none⟩) (Kd.R_types HO380.out BK386.out (by decide)) (fun _ hk => hk.2) (.int .i64 t381)) (fun _ hk => hk.2) (.slice Ao185 t382.length co185)) (fun _ h_ => h_.1)))) hb); have n6_ := zA (Kd.R_below (uR ((Kd.R_mono (Kd.R_far (p := ⟨gb386, 1, none⟩) (Kd.R_far (p := ⟨gb386, 0, none⟩) (Kd.R_types HO384.out BK386.out (by decide)) (fun _ hk => hk.2) (.int .i64 t381)) (fun _ hk => hk.2) (.slice Ao185 t382.length co185)) (fun _ h_ => h_.1)))) hb); have n7_ := zA (blk_below (g := gb320) (o := .cells #[.int .i64 a0_0, .slice A0_1 l0_1.length c0_1] 32 (0, 0)) (by (with_reducible repeat (first | refine blk_drewN ?_ _ | refine blk_drew ?_ | refine blk_alloc ?_ _)); refine blk_far ?_ NB320_386.out _; (with_reducible repeat (first | refine blk_drewN ?_ _ | refine blk_drew ?_ | refine blk_alloc ?_ _)); refine blk_far ?_ NB320_386.out _; (with_reducible repeat (first | refine blk_drewN ?_ _ | refine blk_drew ?_ | refine blk_alloc ?_ _)); exact BK320.out) hb); have n8_ := zA (blk_below (g := gb321) (o := .cells #[.int .i64 a1_0, .slice A1_1 l1_1.length c1_1] 32 (0, 0)) (by (with_reducible repeat (first | refine blk_drewN ?_ _ | refine blk_drew ?_ | refine blk_alloc ?_ _)); refine blk_far ?_ NB321_386.out _; (with_reducible repeat (first | refine blk_drewN ?_ _ | refine blk_drew ?_ | refine blk_alloc ?_ _)); refine blk_far ?_ NB321_386.out _; (with_reducible repeat (first | refine blk_drewN ?_ _ | refine blk_drew ?_ | refine blk_alloc ?_ _)); exact BK321.out) hb); have n9_ := zA (blk_below (g := gb337) (o := .cells #[.int .i64 t332, .slice Ao43 t333.length co43] 36 (0, 0)) (by (with_reducible repeat (first | refine blk_drewN ?_ _ | refine blk_drew ?_ | refine blk_alloc ?_ _)); refine blk_far ?_ NB337_386.out _; (with_reducible repeat (first | refine blk_drewN ?_ _ | refine blk_drew ?_ | refine blk_alloc ?_ _)); refine blk_far ?_ NB337_386.out _; (with_reducible repeat (first | refine blk_drewN ?_ _ | refine blk_drew ?_ | refine blk_alloc ?_ _)); exact BK337.out) hb); have n10_ := zA (blk_below (g := gb342) (o := .cells #[.int .i64 t338, .slice Ao53 t366.length co53] 36 (0, 0)) (by (with_reducible repeat (first | refine blk_drewN ?_ _ | refine blk_drew ?_ | refine blk_alloc ?_ _)); refine blk_far ?_ NB342_386.out _; (with_reducible repeat (first | refine blk_drewN ?_ _ | refine blk_drew ?_ | refine blk_alloc ?_ _)); refine blk_far ?_ NB342_386.out _; (with_reducible repeat (first | refine blk_drewN ?_ _ | refine blk_drew ?_ | refine blk_alloc ?_ _)); exact BK342.out) hb); have n11_ := zA (blk_below (g := gb347) (o := .cells #[.int .i64 t343, .slice Ao63 t368.length co63] 36 (0, 0)) (by (with_reducible repeat (first | refine blk_drewN ?_ _ | refine blk_drew ?_ | refine blk_alloc ?_ _)); refine blk_far ?_ NB347_386.out _; (with_reducible repeat (first | refine blk_drewN ?_ _ | refine blk_drew ?_ | refine blk_alloc ?_ _)); refine blk_far ?_ NB347_386.out _; (with_reducible repeat (first | refine blk_drewN ?_ _ | refine blk_drew ?_ | refine blk_alloc ?_ _)); exact BK347.out) hb); have n12_ := zA (blk_below (g := gb353) (o := .cells #[.int .i64 t348, .slice Ao73 t349.length co73] 36 (0, 0)) (by (with_reducible repeat (first | refine blk_drewN ?_ _ | refine blk_drew ?_ | refine blk_alloc ?_ _)); refine blk_far ?_ NB353_386.out _; (with_reducible repeat (first | refine blk_drewN ?_ _ | refine blk_drew ?_ | refine blk_alloc ?_ _)); refine blk_far ?_ NB353_386.out _; (with_reducible repeat (first | refine blk_drewN ?_ _ | refine blk_drew ?_ | refine blk_alloc ?_ _)); exact BK353.out) hb); have n13_ := zA (blk_below (g := gb386) (o := .cells #[.int .i64 t381, .slice Ao185 t382.length co185] 36 (0, 0)) (by (with_reducible repeat (first | refine blk_drewN ?_ _ | refine blk_drew ?_ | refine blk_alloc ?_ _)); refine blk_put (cs := #[.int .i64 t381, .slice none 0 0]) ?_ 1 _ rfl; (with_reducible repeat (first | refine blk_drewN ?_ _ | refine blk_drew ?_ | refine blk_alloc ?_ _)); refine blk_put (cs := #[.int .i64 0, .slice none 0 0]) ?_ 0 _ rfl; (with_reducible repeat (first | refine blk_drewN ?_ _ | refine blk_drew ?_ | refine blk_alloc ?_ _)); exact BK386.out) hb); have n14_ := xH HB hb; clear HO_338001 HO_343001 HO_348001 HO_354001 HO376 HO380 HO384 BK320 BK321 BK337 BK342 BK347 BK353 BK386 HB; have HO_338001 := n0_; have HO_343001 := n1_; have HO_348001 := n2_; have HO_354001 := n3_; have HO376 := n4_; have HO380 := n5_; have HO384 := n6_; have BK320 := n7_; have BK321 := n8_; have BK337 := n9_; have BK342 := n10_; have BK347 := n11_; have BK353 := n12_; have BK386 := n13_; have HB := n14_; clear n0_ n1_ n2_ n3_ n4_ n5_ n6_ n7_ n8_ n9_ n10_ n11_ n12_ n13_ n14_; (try clear hb); (try clear hb2); (try clear hk); (try clear hi)))
               go_meet
               case rel => exact ⟨_, ((t385 != t336)), (by first | rfl | (simp; done) | (simp [*]; done)), H', ⟨by have := HJ25.out; have := HJ108.out; first | omega | exact Nat.le_refl _⟩, ⟨by (try simp only [hl343001_108]); (try simp only [hl348001_108]); (with_reducible repeat (first | apply Kd.R_alloc | apply Kd.R_drewN | apply Kd.R_drew)); exact Kd.R_mono HO_338001.out (fun _ hk => ⟨hk.2.2.2.1, ⟨hk.2.2.2.2.1, ⟨hk.2.2.2.2.2, hk.2.2.1⟩⟩⟩)⟩, ⟨by (try simp only [hl343001_108]); (try simp only [hl348001_108]); (with_reducible repeat (first | apply Kd.R_alloc | apply Kd.R_drewN | apply Kd.R_drew)); exact Kd.R_mono HO_343001.out (fun _ hk => ⟨hk.2.2.2.1, ⟨hk.2.2.2.2.1, ⟨hk.2.2.2.2.2, hk.2.2.1⟩⟩⟩)⟩, ⟨by (try simp only [hl343001_108]); (try simp only [hl348001_108]); (with_reducible repeat (first | apply Kd.R_alloc | apply Kd.R_drewN | apply Kd.R_drew)); exact Kd.R_mono HO_348001.out (fun _ hk => ⟨hk.2.2.2.1, ⟨hk.2.2.2.2.1, ⟨hk.2.2.2.2.2, hk.2.2.1⟩⟩⟩)⟩, ⟨by (try simp only [hl343001_108]); (try simp only [hl348001_108]); (with_reducible repeat (first | apply Kd.R_alloc | apply Kd.R_drewN | apply Kd.R_drew)); exact Kd.R_mono HO_354001.out (fun _ hk => ⟨hk.2.2.2.1, ⟨hk.2.2.2.2.1, ⟨hk.2.2.2.2.2, hk.2.2.1⟩⟩⟩)⟩, ⟨by (try simp only [hl343001_108]); (try simp only [hl348001_108]); (with_reducible repeat (first | apply Kd.R_alloc | apply Kd.R_drewN | apply Kd.R_drew)); exact Kd.R_mono HO384.out (fun _ hk => ⟨hk.2.2.1, ⟨hk.2.2.2.1, ⟨hk.2.2.2.2.1, hk.2.2.2.2.2⟩⟩⟩)⟩, ⟨by (try simp only [hl343001_108]); (try simp only [hl348001_108]); (with_reducible repeat (first | refine blk_drewN ?_ _ | refine blk_drew ?_ | refine blk_alloc ?_ _)); exact BK320.out⟩, ⟨by (try simp only [hl343001_108]); (try simp only [hl348001_108]); (with_reducible repeat (first | refine blk_drewN ?_ _ | refine blk_drew ?_ | refine blk_alloc ?_ _)); exact BK321.out⟩, ⟨by (try simp only [hl343001_108]); (try simp only [hl348001_108]); (with_reducible repeat (first | refine blk_drewN ?_ _ | refine blk_drew ?_ | refine blk_alloc ?_ _)); exact BK337.out⟩, ⟨by (try simp only [hl343001_108]); (try simp only [hl348001_108]); (with_reducible repeat (first | refine blk_drewN ?_ _ | refine blk_drew ?_ | refine blk_alloc ?_ _)); exact BK342.out⟩, ⟨by (try simp only [hl343001_108]); (try simp only [hl348001_108]); (with_reducible repeat (first | refine blk_drewN ?_ _ | refine blk_drew ?_ | refine blk_alloc ?_ _)); exact BK347.out⟩, ⟨by (try simp only [hl343001_108]); (try simp only [hl348001_108]); (with_reducible repeat (first | refine blk_drewN ?_ _ | refine blk_drew ?_ | refine blk_alloc ?_ _)); exact BK353.out⟩, ⟨by (try simp only [hl343001_108]); (try simp only [hl348001_108]); (with_reducible repeat (first | refine blk_drewN ?_ _ | refine blk_drew ?_ | refine blk_alloc ?_ _)); exact BK386.out⟩, ⟨uH HB.out⟩⟩
              ·replace c188 := Bool.eq_false_iff.mpr c188
               subst c188
               have H1 : (laws_FnExactAddMoments.j2 kj108 t370 true t348 t371) = some r := by rw [if_neg (show ¬ (false = true) by decide)] at H; exact H
               clear H
               have H := H1
               clear H1
               have H' := zA H
               clear H
               have hnb203 := NB386_320.out; have hnc203 := NB320_386.out; have hnb204 := NB386_321.out; have hnc204 := NB321_386.out; have hnb205 := NB386_337.out; have hnc205 := NB337_386.out; have hnb206 := NB386_342.out; have hnc206 := NB342_386.out; have hnb207 := NB386_347.out; have hnc207 := NB347_386.out; have hnb208 := NB386_353.out; have hnc208 := NB353_386.out
               have hcz209_0 : w183.cell? ⟨gb386, 0, none⟩ = some (.int .i64 0) := (blk_cell BK386.out 0).trans rfl
               have hcz209_1 : w183.cell? ⟨gb386, 1, none⟩ = some (.slice none 0 0) := (blk_cell BK386.out 1).trans rfl
               have hfz209_0 := blk_frozen BK386.out 0
               have hfz209_1 := blk_frozen BK386.out 1
               have hnb210 := NB337_320.out; have hnc210 := NB320_337.out; have hnb211 := NB337_321.out; have hnc211 := NB321_337.out; have hnb212 := NB337_342.out; have hnc212 := NB342_337.out; have hnb213 := NB337_347.out; have hnc213 := NB347_337.out; have hnb214 := NB337_353.out; have hnc214 := NB353_337.out
               have hcz215_0 : w183.cell? ⟨gb337, 0, none⟩ = some (.int .i64 t332) := (blk_cell BK337.out 0).trans rfl
               have hcz215_1 : w183.cell? ⟨gb337, 1, none⟩ = some (.slice Ao43 t333.length co43) := (blk_cell BK337.out 1).trans rfl
               have hfz215_0 := blk_frozen BK337.out 0
               have hfz215_1 := blk_frozen BK337.out 1
               go_wp2_with (first | ((with_reducible refine gate_callee (f := 19) rfl ?_); refine goesL_ (some 109) rfl rfl Try.func19 (by kernel_rfl) rfl #[.agg #[.int .i64 t381, .slice Ao185 t382.length co185], .agg #[.int .i64 t332, .slice Ao43 t333.length co43]] rfl (by (try simp only [List.map_toArray, List.map_cons, List.map_nil]); first | done | rfl | (simp only [List.length_drop, List.length_take]; rfl)) ?_; (with_reducible refine (laws_eqMoments.calls kj108 t381 _ _ t382 t332 _ _ t333 false _ ?side1 ?side2 ?side3 ?side4 A187.out).mono ?_); (case side1 => refine (Kd.R_reads' (e := 2) (base := w.heap.size) (ok := fun k_ => (some k_ ≠ (v375 : Value).ownBlock ∧ (some k_ ≠ (v379 : Value).ownBlock ∧ (some k_ ≠ (.slice Ao43 t333.length co43 : Value).ownBlock ∧ (some k_ ≠ (.slice Ao53 t366.length co53 : Value).ownBlock ∧ (some k_ ≠ (.slice Ao63 t368.length co63 : Value).ownBlock ∧ some k_ ≠ (.slice Ao73 t349.length co73 : Value).ownBlock)))))) (n := t382.length) (c := co185) ?_).2.2; exact (uR ((Kd.R_mono (Kd.R_far (p := ⟨gb386, 1, none⟩) (Kd.R_far (p := ⟨gb386, 0, none⟩) (Kd.R_types HO384.out BK386.out (by decide)) (fun _ hk => hk.2) (.int .i64 t381)) (fun _ hk => hk.2) (.slice Ao185 t382.length co185)) (fun _ h_ => h_.1))))); (case side2 => exact (Kd.R_reads' HO384.out).2.1); (case side3 => refine (Kd.R_reads' (e := 2) (base := w.heap.size) (ok := fun k_ => (some k_ ≠ (v375 : Value).ownBlock ∧ (some k_ ≠ (v379 : Value).ownBlock ∧ (some k_ ≠ (.slice Ao185 t382.length co185 : Value).ownBlock ∧ (some k_ ≠ (.slice Ao53 t366.length co53 : Value).ownBlock ∧ (some k_ ≠ (.slice Ao63 t368.length co63 : Value).ownBlock ∧ some k_ ≠ (.slice Ao73 t349.length co73 : Value).ownBlock)))))) (n := t333.length) (c := co43) ?_).2.2; exact (uR ((Kd.R_mono (Kd.R_far (p := ⟨gb386, 1, none⟩) (Kd.R_far (p := ⟨gb386, 0, none⟩) (Kd.R_types HO_338001.out BK386.out (by decide)) (fun _ hk => hk.2) (.int .i64 t381)) (fun _ hk => hk.2) (.slice Ao185 t382.length co185)) (fun _ h_ => h_.1))))); (case side4 => exact (Kd.R_reads' HO_338001.out).2.1); rintro e w216 ⟨rfl, hb⟩; refine ⟨_, rfl, ?_⟩; have n0_ := zA (Kd.R_below (uR ((Kd.R_mono (Kd.R_far (p := ⟨gb386, 1, none⟩) (Kd.R_far (p := ⟨gb386, 0, none⟩) (Kd.R_types HO_338001.out BK386.out (by decide)) (fun _ hk => hk.2) (.int .i64 t381)) (fun _ hk => hk.2) (.slice Ao185 t382.length co185)) (fun _ h_ => h_.1)))) hb); have n1_ := zA (Kd.R_below (uR ((Kd.R_mono (Kd.R_far (p := ⟨gb386, 1, none⟩) (Kd.R_far (p := ⟨gb386, 0, none⟩) (Kd.R_types HO_343001.out BK386.out (by decide)) (fun _ hk => hk.2) (.int .i64 t381)) (fun _ hk => hk.2) (.slice Ao185 t382.length co185)) (fun _ h_ => h_.1)))) hb); have n2_ := zA (Kd.R_below (uR ((Kd.R_mono (Kd.R_far (p := ⟨gb386, 1, none⟩) (Kd.R_far (p := ⟨gb386, 0, none⟩) (Kd.R_types HO_348001.out BK386.out (by decide)) (fun _ hk => hk.2) (.int .i64 t381)) (fun _ hk => hk.2) (.slice Ao185 t382.length co185)) (fun _ h_ => h_.1)))) hb); have n3_ := zA (Kd.R_below (uR ((Kd.R_mono (Kd.R_far (p := ⟨gb386, 1, none⟩) (Kd.R_far (p := ⟨gb386, 0, none⟩) (Kd.R_types HO_354001.out BK386.out (by decide)) (fun _ hk => hk.2) (.int .i64 t381)) (fun _ hk => hk.2) (.slice Ao185 t382.length co185)) (fun _ h_ => h_.1)))) hb); have n4_ := zA (Kd.R_below (uR ((Kd.R_mono (Kd.R_far (p := ⟨gb386, 1, none⟩) (Kd.R_far (p := ⟨gb386, 0, none⟩) (Kd.R_types HO376.out BK386.out (by decide)) (fun _ hk => hk.2) (.int .i64 t381)) (fun _ hk => hk.2) (.slice Ao185 t382.length co185)) (fun _ h_ => h_.1)))) hb); have n5_ := zA (Kd.R_below (uR ((Kd.R_mono (Kd.R_far (p := ⟨gb386, 1, none⟩) (Kd.R_far (p := ⟨gb386, 0, none⟩) (Kd.R_types HO380.out BK386.out (by decide)) (fun _ hk => hk.2) (.int .i64 t381)) (fun _ hk => hk.2) (.slice Ao185 t382.length co185)) (fun _ h_ => h_.1)))) hb); have n6_ := zA (Kd.R_below (uR ((Kd.R_mono (Kd.R_far (p := ⟨gb386, 1, none⟩) (Kd.R_far (p := ⟨gb386, 0, none⟩) (Kd.R_types HO384.out BK386.out (by decide)) (fun _ hk => hk.2) (.int .i64 t381)) (fun _ hk => hk.2) (.slice Ao185 t382.length co185)) (fun _ h_ => h_.1)))) hb); have n7_ := zA (blk_below (g := gb320) (o := .cells #[.int .i64 a0_0, .slice A0_1 l0_1.length c0_1] 32 (0, 0)) (by (with_reducible repeat (first | refine blk_drewN ?_ _ | refine blk_drew ?_ | refine blk_alloc ?_ _)); refine blk_far ?_ NB320_386.out _; (with_reducible repeat (first | refine blk_drewN ?_ _ | refine blk_drew ?_ | refine blk_alloc ?_ _)); refine blk_far ?_ NB320_386.out _; (with_reducible repeat (first | refine blk_drewN ?_ _ | refine blk_drew ?_ | refine blk_alloc ?_ _)); exact BK320.out) hb); have n8_ := zA (blk_below (g := gb321) (o := .cells #[.int .i64 a1_0, .slice A1_1 l1_1.length c1_1] 32 (0, 0)) (by (with_reducible repeat (first | refine blk_drewN ?_ _ | refine blk_drew ?_ | refine blk_alloc ?_ _)); refine blk_far ?_ NB321_386.out _; (with_reducible repeat (first | refine blk_drewN ?_ _ | refine blk_drew ?_ | refine blk_alloc ?_ _)); refine blk_far ?_ NB321_386.out _; (with_reducible repeat (first | refine blk_drewN ?_ _ | refine blk_drew ?_ | refine blk_alloc ?_ _)); exact BK321.out) hb); have n9_ := zA (blk_below (g := gb337) (o := .cells #[.int .i64 t332, .slice Ao43 t333.length co43] 36 (0, 0)) (by (with_reducible repeat (first | refine blk_drewN ?_ _ | refine blk_drew ?_ | refine blk_alloc ?_ _)); refine blk_far ?_ NB337_386.out _; (with_reducible repeat (first | refine blk_drewN ?_ _ | refine blk_drew ?_ | refine blk_alloc ?_ _)); refine blk_far ?_ NB337_386.out _; (with_reducible repeat (first | refine blk_drewN ?_ _ | refine blk_drew ?_ | refine blk_alloc ?_ _)); exact BK337.out) hb); have n10_ := zA (blk_below (g := gb342) (o := .cells #[.int .i64 t338, .slice Ao53 t366.length co53] 36 (0, 0)) (by (with_reducible repeat (first | refine blk_drewN ?_ _ | refine blk_drew ?_ | refine blk_alloc ?_ _)); refine blk_far ?_ NB342_386.out _; (with_reducible repeat (first | refine blk_drewN ?_ _ | refine blk_drew ?_ | refine blk_alloc ?_ _)); refine blk_far ?_ NB342_386.out _; (with_reducible repeat (first | refine blk_drewN ?_ _ | refine blk_drew ?_ | refine blk_alloc ?_ _)); exact BK342.out) hb); have n11_ := zA (blk_below (g := gb347) (o := .cells #[.int .i64 t343, .slice Ao63 t368.length co63] 36 (0, 0)) (by (with_reducible repeat (first | refine blk_drewN ?_ _ | refine blk_drew ?_ | refine blk_alloc ?_ _)); refine blk_far ?_ NB347_386.out _; (with_reducible repeat (first | refine blk_drewN ?_ _ | refine blk_drew ?_ | refine blk_alloc ?_ _)); refine blk_far ?_ NB347_386.out _; (with_reducible repeat (first | refine blk_drewN ?_ _ | refine blk_drew ?_ | refine blk_alloc ?_ _)); exact BK347.out) hb); have n12_ := zA (blk_below (g := gb353) (o := .cells #[.int .i64 t348, .slice Ao73 t349.length co73] 36 (0, 0)) (by (with_reducible repeat (first | refine blk_drewN ?_ _ | refine blk_drew ?_ | refine blk_alloc ?_ _)); refine blk_far ?_ NB353_386.out _; (with_reducible repeat (first | refine blk_drewN ?_ _ | refine blk_drew ?_ | refine blk_alloc ?_ _)); refine blk_far ?_ NB353_386.out _; (with_reducible repeat (first | refine blk_drewN ?_ _ | refine blk_drew ?_ | refine blk_alloc ?_ _)); exact BK353.out) hb); have n13_ := zA (blk_below (g := gb386) (o := .cells #[.int .i64 t381, .slice Ao185 t382.length co185] 36 (0, 0)) (by (with_reducible repeat (first | refine blk_drewN ?_ _ | refine blk_drew ?_ | refine blk_alloc ?_ _)); refine blk_put (cs := #[.int .i64 t381, .slice none 0 0]) ?_ 1 _ rfl; (with_reducible repeat (first | refine blk_drewN ?_ _ | refine blk_drew ?_ | refine blk_alloc ?_ _)); refine blk_put (cs := #[.int .i64 0, .slice none 0 0]) ?_ 0 _ rfl; (with_reducible repeat (first | refine blk_drewN ?_ _ | refine blk_drew ?_ | refine blk_alloc ?_ _)); exact BK386.out) hb); have n14_ := xH HB hb; clear HO_338001 HO_343001 HO_348001 HO_354001 HO376 HO380 HO384 BK320 BK321 BK337 BK342 BK347 BK353 BK386 HB; have HO_338001 := n0_; have HO_343001 := n1_; have HO_348001 := n2_; have HO_354001 := n3_; have HO376 := n4_; have HO380 := n5_; have HO384 := n6_; have BK320 := n7_; have BK321 := n8_; have BK337 := n9_; have BK342 := n10_; have BK347 := n11_; have BK353 := n12_; have BK386 := n13_; have HB := n14_; clear n0_ n1_ n2_ n3_ n4_ n5_ n6_ n7_ n8_ n9_ n10_ n11_ n12_ n13_ n14_; (try clear hb); (try clear hb2); (try clear hk); (try clear hi)))
               go_meet
               case rel => exact ⟨_, (true), (by first | rfl | (simp; done) | (simp [*]; done)), H', ⟨by have := HJ25.out; have := HJ108.out; first | omega | exact Nat.le_refl _⟩, ⟨by (try simp only [hl343001_108]); (try simp only [hl348001_108]); (with_reducible repeat (first | apply Kd.R_alloc | apply Kd.R_drewN | apply Kd.R_drew)); exact Kd.R_mono HO_338001.out (fun _ hk => ⟨hk.2.2.2.1, ⟨hk.2.2.2.2.1, ⟨hk.2.2.2.2.2, hk.2.2.1⟩⟩⟩)⟩, ⟨by (try simp only [hl343001_108]); (try simp only [hl348001_108]); (with_reducible repeat (first | apply Kd.R_alloc | apply Kd.R_drewN | apply Kd.R_drew)); exact Kd.R_mono HO_343001.out (fun _ hk => ⟨hk.2.2.2.1, ⟨hk.2.2.2.2.1, ⟨hk.2.2.2.2.2, hk.2.2.1⟩⟩⟩)⟩, ⟨by (try simp only [hl343001_108]); (try simp only [hl348001_108]); (with_reducible repeat (first | apply Kd.R_alloc | apply Kd.R_drewN | apply Kd.R_drew)); exact Kd.R_mono HO_348001.out (fun _ hk => ⟨hk.2.2.2.1, ⟨hk.2.2.2.2.1, ⟨hk.2.2.2.2.2, hk.2.2.1⟩⟩⟩)⟩, ⟨by (try simp only [hl343001_108]); (try simp only [hl348001_108]); (with_reducible repeat (first | apply Kd.R_alloc | apply Kd.R_drewN | apply Kd.R_drew)); exact Kd.R_mono HO_354001.out (fun _ hk => ⟨hk.2.2.2.1, ⟨hk.2.2.2.2.1, ⟨hk.2.2.2.2.2, hk.2.2.1⟩⟩⟩)⟩, ⟨by (try simp only [hl343001_108]); (try simp only [hl348001_108]); (with_reducible repeat (first | apply Kd.R_alloc | apply Kd.R_drewN | apply Kd.R_drew)); exact Kd.R_mono HO384.out (fun _ hk => ⟨hk.2.2.1, ⟨hk.2.2.2.1, ⟨hk.2.2.2.2.1, hk.2.2.2.2.2⟩⟩⟩)⟩, ⟨by (try simp only [hl343001_108]); (try simp only [hl348001_108]); (with_reducible repeat (first | refine blk_drewN ?_ _ | refine blk_drew ?_ | refine blk_alloc ?_ _)); exact BK320.out⟩, ⟨by (try simp only [hl343001_108]); (try simp only [hl348001_108]); (with_reducible repeat (first | refine blk_drewN ?_ _ | refine blk_drew ?_ | refine blk_alloc ?_ _)); exact BK321.out⟩, ⟨by (try simp only [hl343001_108]); (try simp only [hl348001_108]); (with_reducible repeat (first | refine blk_drewN ?_ _ | refine blk_drew ?_ | refine blk_alloc ?_ _)); exact BK337.out⟩, ⟨by (try simp only [hl343001_108]); (try simp only [hl348001_108]); (with_reducible repeat (first | refine blk_drewN ?_ _ | refine blk_drew ?_ | refine blk_alloc ?_ _)); exact BK342.out⟩, ⟨by (try simp only [hl343001_108]); (try simp only [hl348001_108]); (with_reducible repeat (first | refine blk_drewN ?_ _ | refine blk_drew ?_ | refine blk_alloc ?_ _)); exact BK347.out⟩, ⟨by (try simp only [hl343001_108]); (try simp only [hl348001_108]); (with_reducible repeat (first | refine blk_drewN ?_ _ | refine blk_drew ?_ | refine blk_alloc ?_ _)); exact BK353.out⟩, ⟨by (try simp only [hl343001_108]); (try simp only [hl348001_108]); (with_reducible repeat (first | refine blk_drewN ?_ _ | refine blk_drew ?_ | refine blk_alloc ?_ _)); exact BK386.out⟩, ⟨uH HB.out⟩⟩
             case rest =>
              clear HC166
              try clear c1
              try clear c2
              try clear p2
              try clear c16
              try clear c18
              try clear c19
              try clear c20
              try clear c21
              try clear c22
              try clear c188
              try clear c189
              try clear c190
              try clear c191
              try clear c192
              try clear c193
              try clear c194
              try clear c196
              try clear c197
              try clear c198
              try clear c199
              try clear c200
              try clear c203
              try clear c204
              try clear c205
              try clear c206
              try clear c207
              try clear c208
              try clear c210
              try clear c211
              try clear c212
              try clear c213
              try clear c214
              try clear hcz195_0
              try clear hcz195_1
              try clear hcz201_0
              try clear hcz201_1
              try clear hcz209_0
              try clear hcz209_1
              try clear hcz215_0
              try clear hcz215_1
              try clear hfz195_0
              try clear hfz195_1
              try clear hfz201_0
              try clear hfz201_1
              try clear hfz209_0
              try clear hfz209_1
              try clear hfz215_0
              try clear hfz215_1
              obtain ⟨kq, x115_165, rfl, HA, HJ165, HO_338001, HO_343001, HO_348001, HO_354001, HO_387001, BK320, BK321, BK337, BK342, BK347, BK353, BK386, HB⟩ := hcut
              have hl354001_165 := (Kd.R_reads' HO_354001.out).1
              rw [hl354001_165] at HO_354001
              (try simp only [hl354001_165])
              (try simp only [hl354001_165] at BK320)
              (try simp only [hl354001_165] at BK321)
              (try simp only [hl354001_165] at BK337)
              (try simp only [hl354001_165] at BK342)
              (try simp only [hl354001_165] at BK347)
              (try simp only [hl354001_165] at BK353)
              (try simp only [hl354001_165] at BK386)
              (try simp only [hl354001_165] at HO_338001)
              (try simp only [hl354001_165] at HO_343001)
              (try simp only [hl354001_165] at HO_348001)
              (try simp only [hl354001_165] at HO_387001)
              cases kq with
              | zero => exact absurd HA.out (by simp [laws_FnExactAddMoments.j2])
              | succ kj165 =>
               have H := HA.out
               clear HA
               simp only [laws_FnExactAddMoments.j2] at H
               by_cases c217 : x115_165 = true
               ·subst c217
                have H1 : (some false) = some r := by rw [if_pos rfl] at H; exact H
                clear H
                have H := H1
                clear H1
                rw [HRT.out] at H
                exact absurd H (by simp)
               ·replace c217 := Bool.eq_false_iff.mpr c217
                subst c217
                have H1 : ((laws_heldMoments.f kj165 t348 t371 1).bind fun t388 => (if t388 < 0 then (some false) else (if t388 = t370 then (some true) else (some false)))) = some r := by rw [if_neg (show ¬ (false = true) by decide)] at H; exact H
                clear H
                have H := H1
                clear H1
                replace H := Option.bind_eq_some_iff.mp H
                obtain ⟨t388, A2180, H⟩ := H
                replace H : (if t388 < 0 then (some false) else (if t388 = t370 then (some true) else (some false))) = some r := H
                have A218 := zA A2180
                clear A2180
                by_cases c219 : t388 < 0
                ·rw [if_pos c219] at H
                 have c219b0 : decide (t388 < 0) = true := decide_eq_true c219
                 clear c219
                 rw [HRT.out] at H
                 exact absurd H (by simp)
                ·rw [if_neg c219] at H
                 have c219b0 : decide (t388 < 0) = false := decide_eq_false c219
                 clear c219
                 by_cases c220 : t388 = t370
                 ·rw [if_pos c220] at H
                  have c220b0 : (t388 == t370) = true := beq_iff_eq.mpr c220
                  have c220b1 : (t388 != t370) = false := bne_eq_false_iff_eq.mpr c220
                  clear c220
                  obtain rfl := Option.some.inj H
                  have hnb221 := NB353_320.out; have hnc221 := NB320_353.out; have hnb222 := NB353_321.out; have hnc222 := NB321_353.out; have hnb223 := NB353_337.out; have hnc223 := NB337_353.out; have hnb224 := NB353_342.out; have hnc224 := NB342_353.out; have hnb225 := NB353_347.out; have hnc225 := NB347_353.out; have hnb226 := NB353_386.out; have hnc226 := NB386_353.out
                  have hcz227_0 : wc.cell? ⟨gb353, 0, none⟩ = some (.int .i64 t348) := (blk_cell BK353.out 0).trans rfl
                  have hcz227_1 : wc.cell? ⟨gb353, 1, none⟩ = some (.slice Ao73 t371.length co73) := (blk_cell BK353.out 1).trans rfl
                  have hfz227_0 := blk_frozen BK353.out 0
                  have hfz227_1 := blk_frozen BK353.out 1
                  go_wp2_with (first | ((with_reducible refine gate_callee (f := 24) rfl ?_); refine goesL_ (some 118) rfl rfl Try.func24 (by kernel_rfl) rfl #[.agg #[.int .i64 t348, .slice Ao73 t371.length co73], .int .i64 1] rfl (by (try simp only [List.map_toArray, List.map_cons, List.map_nil]); first | done | rfl | (simp only [List.length_drop, List.length_take]; rfl)) ?_; (with_reducible refine (laws_heldMoments.calls kj165 t348 _ _ t371 1 t388 _ ?side1 ?side2 A218.out).mono ?_); (case side1 => exact uC ((Kd.R_reads' HO_354001.out).2.2)); (case side2 => exact (Kd.R_reads' HO_354001.out).2.1); rintro e w228 ⟨rfl, hb⟩; refine ⟨_, rfl, ?_⟩; have n0_ := xR HO_338001 hb; have n1_ := xR HO_343001 hb; have n2_ := xR HO_348001 hb; have n3_ := xR HO_354001 hb; have n4_ := xR HO_387001 hb; have n5_ := xB BK320 hb; have n6_ := xB BK321 hb; have n7_ := xB BK337 hb; have n8_ := xB BK342 hb; have n9_ := xB BK347 hb; have n10_ := xB BK353 hb; have n11_ := xB BK386 hb; have n12_ := xH HB hb; clear HO_338001 HO_343001 HO_348001 HO_354001 HO_387001 BK320 BK321 BK337 BK342 BK347 BK353 BK386 HB; have HO_338001 := n0_; have HO_343001 := n1_; have HO_348001 := n2_; have HO_354001 := n3_; have HO_387001 := n4_; have BK320 := n5_; have BK321 := n6_; have BK337 := n7_; have BK342 := n8_; have BK347 := n9_; have BK353 := n10_; have BK386 := n11_; have HB := n12_; clear n0_ n1_ n2_ n3_ n4_ n5_ n6_ n7_ n8_ n9_ n10_ n11_ n12_; (try clear hb); (try clear hb2); (try clear hk); (try clear hi)))
                  go_ret
                  exact ⟨by first | rfl | (simp [errW_none, errW_some] <;> rfl) | (simp [*, errW_none, errW_some] <;> rfl), uH HB.out⟩
                 ·rw [if_neg c220] at H
                  have c220b0 : (t388 == t370) = false := beq_eq_false_iff_ne.mpr c220
                  have c220b1 : (t388 != t370) = true := bne_iff_ne.mpr c220
                  rw [HRT.out] at H
                  exact absurd H (by simp)
            ·rw [if_neg c162] at H
             have c162b0 : (t372 == t370) = false := beq_eq_false_iff_ne.mpr c162
             have c162b1 : (t372 != t370) = true := bne_iff_ne.mpr c162
             rw [HRT.out] at H
             exact absurd H (by simp)
       ·replace c106 := Bool.eq_false_iff.mpr c106
        subst c106
        have H1 : (some false) = some r := by rw [if_neg (show ¬ (false = true) by decide)] at H; exact H
        clear H
        have H := H1
        clear H1
        rw [HRT.out] at H
        exact absurd H (by simp)
      ·replace c103 := Bool.eq_false_iff.mpr c103
       subst c103
       have H1 : (some false) = some r := by rw [if_neg (show ¬ (false = true) by decide)] at H; exact H
       clear H
       have H := H1
       clear H1
       rw [HRT.out] at H
       exact absurd H (by simp)

/-- THE ONE PURE STATEMENT of laws_FnExactAddMoments: yours. -/
def laws_FnExactAddMoments.Pure : Prop := ∀ (a0_0 : Int) (l0_1 : List Int) (a1_0 : Int) (l1_1 : List Int) (a2 : Int), (Lit.int .i64 a0_0).wf = true → l0_1.length ≤ maxLen → (∀ x ∈ l0_1, (Lit.int .i64 x).wf = true) → (Lit.int .i64 a1_0).wf = true → l1_1.length ≤ maxLen → (∀ x ∈ l1_1, (Lit.int .i64 x).wf = true) → (Lit.int .i64 a2).wf = true → ∃ k, laws_FnExactAddMoments.f k a0_0 l0_1 a1_0 l1_1 a2 = some true
theorem laws_FnExactAddMoments.walk (P : laws_FnExactAddMoments.Pure) (a0_0 : Int) (a0_1 : Option Addr) (len0_1 cap0_1 : Nat) (z0_1 : List Int) (a1_0 : Int) (a1_1 : Option Addr) (len1_1 cap1_1 : Nat) (z1_1 : List Int) (a2 : Int) (w : World) (w0_0 : (Lit.int .i64 a0_0).wf = true) (w0_1 : (a0_1 = none ∧ len0_1 = 0 ∧ cap0_1 = 0 ∧ z0_1 = []) ∨ ∃ x, a0_1 = some x ∧ len0_1 ≤ cap0_1 ∧ cap0_1 ≤ maxLen ∧ z0_1.length = cap0_1 ∧ (∀ i, i < z0_1.length → w.cell? (x.add i) = some (.int .i64 (z0_1.getD i 0))) ∧ ∀ n ∈ z0_1, (Lit.int .i64 n).wf = true) (w1_0 : (Lit.int .i64 a1_0).wf = true) (w1_1 : (a1_1 = none ∧ len1_1 = 0 ∧ cap1_1 = 0 ∧ z1_1 = []) ∨ ∃ x, a1_1 = some x ∧ len1_1 ≤ cap1_1 ∧ cap1_1 ≤ maxLen ∧ z1_1.length = cap1_1 ∧ (∀ i, i < z1_1.length → w.cell? (x.add i) = some (.int .i64 (z1_1.getD i 0))) ∧ ∀ n ∈ z1_1, (Lit.int .i64 n).wf = true) (w2 : (Lit.int .i64 a2).wf = true) :
  Calls Try.prog 5 #[.agg #[.int .i64 a0_0, .slice a0_1 len0_1 cap0_1], .agg #[.int .i64 a1_0, .slice a1_1 len1_1 cap1_1], .int .i64 a2] w fun e w' => e = .returned (.bool true) ∧ Below w.heap.size w w' := by
 obtain ⟨l0_1, rfl, hr0_1, hm0_1, hw0_1, hc0_1⟩ := ReadsInt.ofRowC w0_1
 obtain ⟨l1_1, rfl, hr1_1, hm1_1, hw1_1, hc1_1⟩ := ReadsInt.ofRowC w1_1
 obtain ⟨k, h⟩ := P a0_0 l0_1 a1_0 l1_1 a2 w0_0 hm0_1 hw0_1 w1_0 hm1_1 hw1_1 w2
 refine (laws_FnExactAddMoments.calls k a0_0 _ _ l0_1 a1_0 _ _ l1_1 a2 true rfl w (Kd.C_of_reads (d := (0 : Int)) (h1 := fun _ => rfl) hr0_1) hc0_1 (Kd.C_of_reads (d := (0 : Int)) (h1 := fun _ => rfl) hr1_1) hc1_1 h).mono ?_
 rintro e w' ⟨rfl, hd⟩
 exact ⟨rfl, hd⟩

end Go.Proofs.Ytcfiegapclbenaa.Pr
