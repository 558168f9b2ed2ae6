/- Texts of this session in one: what functions of the program compute, and plain facts of it, under the conditions that each theorem names. -/
import Derived.Test.YtnpepkpogohcmaaKFspecl02Bad
import Derived.Test.YtnpepkpogohcmaaKFspecl02DrawOf
import Derived.Test.YtnpepkpogohcmaaKionals1
import Derived.Test.YtnpepkpogohcmaaKionals3
import Derived.Test.YtnpepkpogohcmaaKionals4
namespace Go.Proofs.Ytnpepkpogohcmaa.Pr
open Go.RowKit Go.Proofs.YtnpepkpogohcmaaW.PrintWords Go.Proofs.YtnpepkpogohcmaaW.PrintLast Go.Proofs.YtnpepkpogohcmaaW.PrintMore
attribute [local go_sem] max2_int min2_int max_two min_two max_three min_three max_four min_four   -- for this text's walks alone
set_option linter.unusedVariables false
set_option linter.unusedSimpArgs false
/-! ### spec_l02Draw: function 77 -/
def spec_l02Draw.f (k : Nat) (s0_0 : List Int) (s0_1 : Int) (s0_2 : Int) : Option (Int × List Int × Int × Int) := (spec_l01DrawPrime.f s0_0 s0_1 s0_2).bind fun bt317 => ((spec_l01Near.f s0_0 bt317.2.1 bt317.2.2 24).bind fun bt320 => ((spec_l01Pick.f s0_0 bt320.2.1 bt320.2.2 (([1, 2, 3, 4, 5, 6, 7, 8, 9, bt320.1] : List Int))).bind fun bt326 => ((spec_l02DrawOf.f k s0_0 bt326.2.1 bt326.2.2 bt317.1 (mn bt326.1 25)).bind fun bt329 => (some (bt329.1, bt329.2.1, bt329.2.2.1, bt329.2.2.2)))))
set_option maxHeartbeats 8000000 in
set_option maxRecDepth 100000 in
theorem spec_l02Draw.calls (k : Nat) (g : Nat) (s0_0 : List Int) (s0_1 : Int) (s0_2 : Int) (r1 : Int) (r2 : List Int) (r3 : Int) (r4 : Int) (w0 w : World) (hI : IsS81 w0 w g s0_0 s0_1 s0_2) (hB : Below w0.heap.size w0 w) (h : spec_l02Draw.f k s0_0 s0_1 s0_2 = some (r1, r2, r3, r4)) :
  Calls Try.prog 77 #[.pointer (some ⟨g, 0, none⟩)] w fun e w' => ∃ v1_ : Value, e = .returned (.agg #[.int .i64 r1, v1_]) ∧ Kd.R (Kd.int .i64) 2 w' w.heap.size (fun _ => True) v1_ r2 ∧ IsS81 w0 w' g s0_0 r3 r4 ∧ Below w0.heap.size w0 w' ∧ KeepBut w w' g none := by
 have hu26 := Try.underlying26
 have HI0 := zA hI
 have HK := zA (KeepBut.refl w g none)
 have HL := zA hB.size
 clear hI
 have HW0 := zA hB.size
 have HB := zA hB
 clear hB
 have H : ((spec_l01DrawPrime.f s0_0 s0_1 s0_2).bind fun bt317 => ((spec_l01Near.f s0_0 bt317.2.1 bt317.2.2 24).bind fun bt320 => ((spec_l01Pick.f s0_0 bt320.2.1 bt320.2.2 (([1, 2, 3, 4, 5, 6, 7, 8, 9, bt320.1] : List Int))).bind fun bt326 => ((spec_l02DrawOf.f k s0_0 bt326.2.1 bt326.2.2 bt317.1 (mn bt326.1 25)).bind fun bt329 => (some (bt329.1, bt329.2.1, bt329.2.2.1, bt329.2.2.2)))))) = some (r1, r2, r3, r4) := h
 clear h
 replace H := Option.bind_eq_some_iff.mp H
 obtain ⟨⟨t317, t318, t319⟩, A20, H⟩ := H
 replace H : ((spec_l01Near.f s0_0 t318 t319 24).bind fun bt320 => ((spec_l01Pick.f s0_0 bt320.2.1 bt320.2.2 (([1, 2, 3, 4, 5, 6, 7, 8, 9, bt320.1] : List Int))).bind fun bt326 => ((spec_l02DrawOf.f k s0_0 bt326.2.1 bt326.2.2 t317 (mn bt326.1 25)).bind fun bt329 => (some (bt329.1, bt329.2.1, bt329.2.2.1, bt329.2.2.2))))) = some (r1, r2, r3, r4) := H
 have A2 := zA A20
 clear A20
 replace H := Option.bind_eq_some_iff.mp H
 obtain ⟨⟨t320, t321, t322⟩, A30, H⟩ := H
 replace H : ((spec_l01Pick.f s0_0 t321 t322 (([1, 2, 3, 4, 5, 6, 7, 8, 9, t320] : List Int))).bind fun bt326 => ((spec_l02DrawOf.f k s0_0 bt326.2.1 bt326.2.2 t317 (mn bt326.1 25)).bind fun bt329 => (some (bt329.1, bt329.2.1, bt329.2.2.1, bt329.2.2.2)))) = some (r1, r2, r3, r4) := H
 have A3 := zA A30
 clear A30
 obtain ⟨y323, hy323⟩ : ∃ y_ : List Int, y_ = (([1, 2, 3, 4, 5, 6, 7, 8, 9, t320] : List Int)) := ⟨_, rfl⟩
 replace H : ((spec_l01Pick.f s0_0 t321 t322 y323).bind fun bt326 => ((spec_l02DrawOf.f k s0_0 bt326.2.1 bt326.2.2 t317 (mn bt326.1 25)).bind fun bt329 => (some (bt329.1, bt329.2.1, bt329.2.2.1, bt329.2.2.2)))) = some (r1, r2, r3, r4) := by first | (rw [hy323]; exact H) | exact H
 have Ny323 := zA hy323
 clear hy323
 replace H := Option.bind_eq_some_iff.mp H
 obtain ⟨⟨t326, t327, t328⟩, A40, H⟩ := H
 replace H : ((spec_l02DrawOf.f k s0_0 t327 t328 t317 (mn t326 25)).bind fun bt329 => (some (bt329.1, bt329.2.1, bt329.2.2.1, bt329.2.2.2))) = some (r1, r2, r3, r4) := H
 have A4 := zA A40
 clear A40
 obtain ⟨ji5, hji5⟩ : ∃ j_ : Int, (mn t326 25) = j_ := ⟨_, rfl⟩
 replace H : ((spec_l02DrawOf.f k s0_0 t327 t328 t317 (ji5)).bind fun bt329 => (some (bt329.1, bt329.2.1, bt329.2.2.1, bt329.2.2.2))) = some (r1, r2, r3, r4) := by first | (rw [hji5] at H; exact H) | (simp only [hji5] at H ⊢; exact H)
 (try rw [hji5] at A2)
 (try rw [hji5] at A3)
 (try rw [hji5] at A4)
 (try (have hji5h : ji5 ≤ 25 := by (rw [← hji5]; unfold mn; (repeat' split) <;> omega)))
 (try (have hji5g : ji5 ≤ 64 := by omega))
 have hji5_ : (if 25 < t326 then 25 else t326) = ji5 := hji5
 replace H := Option.bind_eq_some_iff.mp H
 obtain ⟨⟨t329, t330, t333, t334⟩, A60, H⟩ := H
 replace H : (some (t329, t330, t333, t334)) = some (r1, r2, r3, r4) := H
 have A6 := zA A60
 clear A60
 simp only [Option.some.injEq, Prod.mk.injEq] at H
 obtain ⟨rfl, rfl, rfl, rfl⟩ := H
 go_enter Try.func77, Try.ntmps77
 go_wp2_with (first | ((with_reducible refine gate_dst (N := 2) rfl ?_); refine bx 2 #[.int .i64 0, .slice none 0 0] 26 ?_; intro gb316 hg w7 hbox hb; replace HB := zA (below_step (by repeat (first | (with_reducible first | exact HB.out | apply below_alloc | apply pw_below_drewN | apply below_drew1 | refine below_set ?_ (IsS81.ge HI0.out)) | exact HB.out)) hb); have BK316 := zA (hbox); have GW316 := zA ((by rw [hg]; exact (keep_size (w := w) (g := g) (row := none) (by repeat (first | (with_reducible first | exact HK.out | apply KeepBut.set_ | apply keep_drewN | apply keep_drew | apply keep_alloc) | exact HK.out))) : w.heap.size ≤ gb316)); have GE316 := zA ((Nat.le_trans HW0.out (by rw [hg]; exact (keep_size (w := w) (g := g) (row := none) (by repeat (first | (with_reducible first | exact HK.out | apply KeepBut.set_ | apply keep_drewN | apply keep_drew | apply keep_alloc) | exact HK.out))) : w.heap.size ≤ gb316) : w0.heap.size ≤ gb316)); replace HK := zA (KeepBut.trans (by repeat (first | (with_reducible first | exact HK.out | apply KeepBut.set_ | apply keep_drewN | apply keep_drew | apply keep_alloc) | exact HK.out)) (KeepBut.of_below hb g none) (.inl rfl)); have NB0_316 := zA ((by rw [hg]; exact Nat.ne_of_lt (IsS81.lt (show IsS81 w0 _ g s0_0 s0_1 s0_2 from by repeat (first | (with_reducible first | exact HI0.out | apply IsS81.alloc | apply IsS81.drewN | apply IsS81.drew | apply IsS81.set_1 | apply IsS81.set_2) | exact HI0.out))) : g ≠ gb316)); have NB316_0 := zA ((by rw [hg]; exact Nat.ne_of_gt (IsS81.lt (show IsS81 w0 _ g s0_0 s0_1 s0_2 from by repeat (first | (with_reducible first | exact HI0.out | apply IsS81.alloc | apply IsS81.drewN | apply IsS81.drew | apply IsS81.set_1 | apply IsS81.set_2) | exact HI0.out))) : gb316 ≠ g)); replace HI0 := zA (IsS81.below (by repeat (first | (with_reducible first | exact HI0.out | apply IsS81.alloc | apply IsS81.drewN | apply IsS81.drew | apply IsS81.set_1 | apply IsS81.set_2) | exact HI0.out)) hb); have := geI GE316; clear hb hbox hg) | ((with_reducible refine gate_callee (f := 96) rfl ?_); refine gL (some 5) Try.func96 #[.pointer (some ⟨g, 0, none⟩)] ?_; (with_reducible refine (spec_l01DrawPrime.calls g s0_0 s0_1 s0_2 t317 t318 t319 w0 _ ?side1 ?side2 A2.out).mono ?_); (case side1 => repeat (first | (with_reducible first | exact HI0.out | apply IsS81.alloc | apply IsS81.drewN | apply IsS81.drew | apply IsS81.set_1 | apply IsS81.set_2 | refine IsS81.far ?_ NB0_316.out _) | exact HI0.out)); (case side2 => repeat (first | (with_reducible first | exact HB.out | apply below_alloc | apply pw_below_drewN | apply below_drew1 | refine below_set ?_ (IsS81.ge HI0.out) | refine below_set ?_ GE316.out) | exact HB.out)); rintro e w8 ⟨rfl, hi, hb, hk⟩; refine ⟨_, rfl, ?_⟩; replace BK316 := zA (KeepBut.blk hk (g' := gb316) (o := .cells #[.int .i64 0, .slice none 0 0] 26 (0, 0)) (uB BK316.out) NB316_0.out (by simp)); replace HK := zA (KeepBut.trans (by repeat (first | (with_reducible first | exact HK.out | apply KeepBut.set_ | apply keep_drewN | apply keep_drew | apply keep_alloc | refine keep_far ?_ GW316.out _) | exact HK.out)) hk (.inl rfl)); replace HB := zA (hb); replace HI0 := zA (hi); (try clear hb); (try clear hb2); (try clear hk); (try clear hi)) | ((with_reducible refine gate_callee (f := 97) rfl ?_); refine gL (some 8) Try.func97 #[.pointer (some ⟨g, 0, none⟩), .int .i64 24] ?_; (with_reducible refine (spec_l01Near.calls g s0_0 t318 t319 24 t320 t321 t322 w0 _ ?side1 ?side2 A3.out).mono ?_); (case side1 => repeat (first | (with_reducible first | exact HI0.out | apply IsS81.alloc | apply IsS81.drewN | apply IsS81.drew | apply IsS81.set_1 | apply IsS81.set_2 | refine IsS81.far ?_ NB0_316.out _) | exact HI0.out)); (case side2 => repeat (first | (with_reducible first | exact HB.out | apply below_alloc | apply pw_below_drewN | apply below_drew1 | refine below_set ?_ (IsS81.ge HI0.out) | refine below_set ?_ GE316.out) | exact HB.out)); rintro e w9 ⟨rfl, hi, hb, hk⟩; refine ⟨_, rfl, ?_⟩; replace BK316 := zA (KeepBut.blk hk (g' := gb316) (o := .cells #[.int .i64 0, .slice none 0 0] 26 (0, 0)) (uB BK316.out) NB316_0.out (by simp)); replace HK := zA (KeepBut.trans (by repeat (first | (with_reducible first | exact HK.out | apply KeepBut.set_ | apply keep_drewN | apply keep_drew | apply keep_alloc | refine keep_far ?_ GW316.out _) | exact HK.out)) hk (.inl rfl)); replace HB := zA (hb); replace HI0 := zA (hi); (try clear hb); (try clear hb2); (try clear hk); (try clear hi)) | ((with_reducible refine gate_dst (N := 9) rfl ?_); refine Kd.R_lit (Kd.int .i64) _ 2 ?hg (N := 9) ?hd (xs := ([1, 2, 3, 4, 5, 6, 7, 8, 9, t320] : List Int)) (inner := [.int .i64 1, .int .i64 2, .int .i64 3, .int .i64 4, .int .i64 5, .int .i64 6, .int .i64 7, .int .i64 8, .int .i64 9, .int .i64 t320]) (ok := fun _ => True) (okp := fun _ => True) ?hr ?hp (fun _ hk => hk) trivial (Below.refl _ _) (Nat.le_refl _) (by simp) ?_; (case hd => rfl); (case hg => rfl); (case hr => first | (go_simp; done) | (go_simp; rfl)); (case hp => exact (Reps.one (show Kd.M (Kd.int .i64) _ _ _ 1 [.int .i64 1] from rfl) (Reps.one (show Kd.M (Kd.int .i64) _ _ _ 2 [.int .i64 2] from rfl) (Reps.one (show Kd.M (Kd.int .i64) _ _ _ 3 [.int .i64 3] from rfl) (Reps.one (show Kd.M (Kd.int .i64) _ _ _ 4 [.int .i64 4] from rfl) (Reps.one (show Kd.M (Kd.int .i64) _ _ _ 5 [.int .i64 5] from rfl) (Reps.one (show Kd.M (Kd.int .i64) _ _ _ 6 [.int .i64 6] from rfl) (Reps.one (show Kd.M (Kd.int .i64) _ _ _ 7 [.int .i64 7] from rfl) (Reps.one (show Kd.M (Kd.int .i64) _ _ _ 8 [.int .i64 8] from rfl) (Reps.one (show Kd.M (Kd.int .i64) _ _ _ 9 [.int .i64 9] from rfl) (Reps.one (show Kd.M (Kd.int .i64) _ _ _ t320 [.int .i64 t320] from rfl) (Reps.none _ _)))))))))))); intro v324 w10 ho11 hb hg_ hnew_; clear hg_ hnew_; (first | rw [← Ny323.out] at ho11 | (simp only [Int.reduceToNat] at ho11; rw [← Ny323.out] at ho11)); have HO325 := zA (Kd.R_lower ho11 (keep_size (w := w) (g := g) (row := none) (by repeat (first | (with_reducible first | exact HK.out | apply KeepBut.set_ | apply keep_drewN | apply keep_drew | apply keep_alloc | refine keep_far ?_ GW316.out _) | exact HK.out)))); replace BK316 := xB BK316 hb; replace HK := zA (KeepBut.trans (by repeat (first | (with_reducible first | exact HK.out | apply KeepBut.set_ | apply keep_drewN | apply keep_drew | apply keep_alloc | refine keep_far ?_ GW316.out _) | exact HK.out)) (KeepBut.of_below hb g none) (.inl rfl)); replace HB := zA (below_step (by repeat (first | (with_reducible first | exact HB.out | apply below_alloc | apply pw_below_drewN | apply below_drew1 | refine below_set ?_ (IsS81.ge HI0.out) | refine below_set ?_ GE316.out) | exact HB.out)) hb); replace HI0 := zA (IsS81.below (by repeat (first | (with_reducible first | exact HI0.out | apply IsS81.alloc | apply IsS81.drewN | apply IsS81.drew | apply IsS81.set_1 | apply IsS81.set_2 | refine IsS81.far ?_ NB0_316.out _) | exact HI0.out)) hb); clear hb ho11; obtain ⟨Ao12, co12, eo12⟩ := Kd.R_slice HO325.out; subst eo12) | ((with_reducible refine gate_callee (f := 94) rfl ?_); refine gL (some 10) Try.func94 #[.pointer (some ⟨g, 0, none⟩), .slice Ao12 y323.length co12] ?_; (with_reducible refine (spec_l01Pick.calls g s0_0 t321 t322 _ _ y323 t326 t327 t328 w0 _ ?side1 ?side2 ?side3 ?side4 ?side5 A4.out).mono ?_); (case side1 => repeat (first | (with_reducible first | exact HI0.out | apply IsS81.alloc | apply IsS81.drewN | apply IsS81.drew | apply IsS81.set_1 | apply IsS81.set_2 | refine IsS81.far ?_ NB0_316.out _) | exact HI0.out)); (case side2 => repeat (first | (with_reducible first | exact HB.out | apply below_alloc | apply pw_below_drewN | apply below_drew1 | refine below_set ?_ (IsS81.ge HI0.out) | refine below_set ?_ GE316.out) | exact HB.out)); (case side3 => exact uC ((Kd.R_reads' HO325.out).2.2)); (case side4 => exact (Kd.R_reads' HO325.out).2.1); (case side5 => exact far_slice (IsS81.own_ne HI0.out HO325.out (by decide))); rintro e w13 ⟨rfl, hi, hb, hk⟩; refine ⟨_, rfl, ?_⟩; replace BK316 := zA (KeepBut.blk hk (g' := gb316) (o := .cells #[.int .i64 0, .slice none 0 0] 26 (0, 0)) (uB BK316.out) NB316_0.out (by simp)); replace HO325 := zA (Kd.R_mono (Kd.R_keep (IsS81.apart (show IsS81 w0 _ g s0_0 t321 t322 from by repeat (first | (with_reducible first | exact HI0.out | apply IsS81.alloc | apply IsS81.drewN | apply IsS81.drew | apply IsS81.set_1 | apply IsS81.set_2 | refine IsS81.far ?_ NB0_316.out _) | exact HI0.out)) (uR HO325.out) (by decide)) hk (fun _ h => h.2)) (fun _ h => h.1)); replace HK := zA (KeepBut.trans (by repeat (first | (with_reducible first | exact HK.out | apply KeepBut.set_ | apply keep_drewN | apply keep_drew | apply keep_alloc | refine keep_far ?_ GW316.out _) | exact HK.out)) hk (.inl rfl)); replace HB := zA (hb); replace HI0 := zA (hi); (try clear hb); (try clear hb2); (try clear hk); (try clear hi)) | ((with_reducible refine gate_callee (f := 95) rfl ?_); refine goesL_ (some 12) rfl rfl Try.func95 (by kernel_rfl) rfl #[.pointer (some ⟨g, 0, none⟩), .int .i64 t317, .int .i64 ji5] rfl (by (try simp only [la, lb, lc]); first | done | (simp only [hji5]; rfl) | rfl | (simp only [ld, le]; rfl)) ?_; (with_reducible refine (spec_l02DrawOf.calls k g s0_0 t327 t328 t317 ji5 t329 t330 t333 t334 w0 _ ?side1 ?side2 A6.out).mono ?_); (case side1 => repeat (first | (with_reducible first | exact HI0.out | apply IsS81.alloc | apply IsS81.drewN | apply IsS81.drew | apply IsS81.set_1 | apply IsS81.set_2 | refine IsS81.far ?_ NB0_316.out _) | exact HI0.out)); (case side2 => repeat (first | (with_reducible first | exact HB.out | apply below_alloc | apply pw_below_drewN | apply below_drew1 | refine below_set ?_ (IsS81.ge HI0.out) | refine below_set ?_ GE316.out) | exact HB.out)); rintro e w14 ⟨v331, rfl, ho0, hi, hb, hk⟩; refine ⟨_, rfl, ?_⟩; replace BK316 := zA (KeepBut.blk hk (g' := gb316) (o := .cells #[.int .i64 0, .slice none 0 0] 26 (0, 0)) (uB BK316.out) NB316_0.out (by simp)); have HO332 := zA (Kd.R_lower (Kd.R_new' ho0 (Kd.R_lt (uR HO325.out))) (keep_size (w := w) (g := g) (row := none) (by repeat (first | (with_reducible first | exact HK.out | apply KeepBut.set_ | apply keep_drewN | apply keep_drew | apply keep_alloc | refine keep_far ?_ GW316.out _) | exact HK.out)))); replace HO325 := zA (Kd.R_mono (Kd.R_told (Kd.R_oldK (IsS81.apart (show IsS81 w0 _ g s0_0 t327 t328 from by repeat (first | (with_reducible first | exact HI0.out | apply IsS81.alloc | apply IsS81.drewN | apply IsS81.drew | apply IsS81.set_1 | apply IsS81.set_2 | refine IsS81.far ?_ NB0_316.out _) | exact HI0.out)) (uR HO325.out) (by decide)) hk) (Kd.R_base ho0)) (fun _ h_ => h_.1)); replace HK := zA (KeepBut.trans (by repeat (first | (with_reducible first | exact HK.out | apply KeepBut.set_ | apply keep_drewN | apply keep_drew | apply keep_alloc | refine keep_far ?_ GW316.out _) | exact HK.out)) hk (.inl rfl)); replace HB := zA (hb); replace HI0 := zA (hi); (try clear hb); (try clear hb2); (try clear hk); (try clear hi); (try clear ho0); have hnb15 := NB316_0.out; have hnc15 := NB0_316.out; have hcz16_0 := bc BK316 0; have hcz16_1 := bc BK316 1; have hfz16_0 := bf BK316 0; have hfz16_1 := bf BK316 1; obtain ⟨Ao17, co17, eo17⟩ := Kd.R_slice HO332.out; subst eo17))
 refine bodyPost_ret (results_cell_row rfl _ _ gb316 26 #[.int .i64 t329, .slice Ao17 t330.length co17] (0, 0) _ rfl (by (repeat refine up1 ?_); refine blk_put (cs := #[.int .i64 t329, .slice none 0 0]) ?_ 1 _ rfl; (repeat refine up1 ?_); refine blk_put (cs := #[.int .i64 0, .slice none 0 0]) ?_ 0 _ rfl; (repeat refine up1 ?_); exact BK316.out) Try.underlying26 rfl (by kernel_rfl)) rfl ?_
 exact ⟨_, by first | rfl | (simp [errW_none, errW_some] <;> rfl) | (simp only [← hji5]; first | rfl | (simp [errW_none, errW_some] <;> rfl)) | (simp [*, errW_none, errW_some] <;> rfl), uR (Kd.R_mono (Kd.R_far (p := ⟨gb316, 1, none⟩) (Kd.R_far (p := ⟨gb316, 0, none⟩) (Kd.R_types HO332.out BK316.out (by decide)) (fun _ hk => hk.2) (.int .i64 t329)) (fun _ hk => hk.2) (.slice Ao17 t330.length co17)) (fun _ hk => trivial)), by repeat (first | (with_reducible first | exact HI0.out | apply IsS81.alloc | apply IsS81.drewN | apply IsS81.drew | apply IsS81.set_1 | apply IsS81.set_2 | refine IsS81.far ?_ NB0_316.out _) | exact HI0.out), by repeat (first | (with_reducible first | exact HB.out | apply below_alloc | apply pw_below_drewN | apply below_drew1 | refine below_set ?_ (IsS81.ge HI0.out) | refine below_set ?_ GE316.out) | exact HB.out), by repeat (first | (with_reducible first | exact HK.out | apply KeepBut.set_ | apply keep_drewN | apply keep_drew | apply keep_alloc | refine keep_far ?_ GW316.out _) | exact HK.out)⟩
/-! ### spec_l02Spoil: function 46 -/
def spec_l02Spoil.f (k : Nat) (s0_0 : List Int) (s0_1 : Int) (s0_2 : Int) : Option (Int × List Int × Int × Int) := (spec_l02Draw.f k s0_0 s0_1 s0_2).bind fun bt336 => ((spec_l02Bad.f k s0_0 bt336.2.2.1 bt336.2.2.2 bt336.1 bt336.2.1).bind fun bt342 => (some (bt342.1, bt342.2.1, bt342.2.2.1, bt342.2.2.2)))
set_option maxHeartbeats 8000000 in
set_option maxRecDepth 100000 in
theorem spec_l02Spoil.calls (k : Nat) (g : Nat) (s0_0 : List Int) (s0_1 : Int) (s0_2 : Int) (r1 : Int) (r2 : List Int) (r3 : Int) (r4 : Int) (w0 w : World) (hI : IsS81 w0 w g s0_0 s0_1 s0_2) (hB : Below w0.heap.size w0 w) (h : spec_l02Spoil.f k s0_0 s0_1 s0_2 = some (r1, r2, r3, r4)) :
  Calls Try.prog 46 #[.pointer (some ⟨g, 0, none⟩)] w fun e w' => ∃ v1_ : Value, e = .returned (.agg #[.int .i64 r1, v1_]) ∧ Kd.R (Kd.int .i64) 2 w' w.heap.size (fun _ => True) v1_ r2 ∧ IsS81 w0 w' g s0_0 r3 r4 ∧ Below w0.heap.size w0 w' ∧ KeepBut w w' g none := by
 have hu26 := Try.underlying26
 have HI0 := zA hI
 have HK := zA (KeepBut.refl w g none)
 have HL := zA hB.size
 clear hI
 have HW0 := zA hB.size
 have HB := zA hB
 clear hB
 have H : ((spec_l02Draw.f k s0_0 s0_1 s0_2).bind fun bt336 => ((spec_l02Bad.f k s0_0 bt336.2.2.1 bt336.2.2.2 bt336.1 bt336.2.1).bind fun bt342 => (some (bt342.1, bt342.2.1, bt342.2.2.1, bt342.2.2.2)))) = some (r1, r2, r3, r4) := h
 clear h
 replace H := Option.bind_eq_some_iff.mp H
 obtain ⟨⟨t336, t337, t340, t341⟩, A20, H⟩ := H
 replace H : ((spec_l02Bad.f k s0_0 t340 t341 t336 t337).bind fun bt342 => (some (bt342.1, bt342.2.1, bt342.2.2.1, bt342.2.2.2))) = some (r1, r2, r3, r4) := H
 have A2 := zA A20
 clear A20
 replace H := Option.bind_eq_some_iff.mp H
 obtain ⟨⟨t342, t343, t346, t347⟩, A30, H⟩ := H
 replace H : (some (t342, t343, t346, t347)) = some (r1, r2, r3, r4) := H
 have A3 := zA A30
 clear A30
 simp only [Option.some.injEq, Prod.mk.injEq] at H
 obtain ⟨rfl, rfl, rfl, rfl⟩ := H
 go_enter Try.func46, Try.ntmps46
 go_wp2_with (first | ((with_reducible refine gate_dst (N := 2) rfl ?_); refine bx 2 #[.int .i64 0, .slice none 0 0] 26 ?_; intro gb335 hg w4 hbox hb; replace HB := zA (below_step (by repeat (first | (with_reducible first | exact HB.out | apply below_alloc | apply pw_below_drewN | apply below_drew1 | refine below_set ?_ (IsS81.ge HI0.out)) | exact HB.out)) hb); have BK335 := zA (hbox); have GW335 := zA ((by rw [hg]; exact (keep_size (w := w) (g := g) (row := none) (by repeat (first | (with_reducible first | exact HK.out | apply KeepBut.set_ | apply keep_drewN | apply keep_drew | apply keep_alloc) | exact HK.out))) : w.heap.size ≤ gb335)); have GE335 := zA ((Nat.le_trans HW0.out (by rw [hg]; exact (keep_size (w := w) (g := g) (row := none) (by repeat (first | (with_reducible first | exact HK.out | apply KeepBut.set_ | apply keep_drewN | apply keep_drew | apply keep_alloc) | exact HK.out))) : w.heap.size ≤ gb335) : w0.heap.size ≤ gb335)); replace HK := zA (KeepBut.trans (by repeat (first | (with_reducible first | exact HK.out | apply KeepBut.set_ | apply keep_drewN | apply keep_drew | apply keep_alloc) | exact HK.out)) (KeepBut.of_below hb g none) (.inl rfl)); have NB0_335 := zA ((by rw [hg]; exact Nat.ne_of_lt (IsS81.lt (show IsS81 w0 _ g s0_0 s0_1 s0_2 from by repeat (first | (with_reducible first | exact HI0.out | apply IsS81.alloc | apply IsS81.drewN | apply IsS81.drew | apply IsS81.set_1 | apply IsS81.set_2) | exact HI0.out))) : g ≠ gb335)); have NB335_0 := zA ((by rw [hg]; exact Nat.ne_of_gt (IsS81.lt (show IsS81 w0 _ g s0_0 s0_1 s0_2 from by repeat (first | (with_reducible first | exact HI0.out | apply IsS81.alloc | apply IsS81.drewN | apply IsS81.drew | apply IsS81.set_1 | apply IsS81.set_2) | exact HI0.out))) : gb335 ≠ g)); replace HI0 := zA (IsS81.below (by repeat (first | (with_reducible first | exact HI0.out | apply IsS81.alloc | apply IsS81.drewN | apply IsS81.drew | apply IsS81.set_1 | apply IsS81.set_2) | exact HI0.out)) hb); have := geI GE335; clear hb hbox hg) | ((with_reducible refine gate_callee (f := 77) rfl ?_); refine gL (some 5) Try.func77 #[.pointer (some ⟨g, 0, none⟩)] ?_; (with_reducible refine (spec_l02Draw.calls k g s0_0 s0_1 s0_2 t336 t337 t340 t341 w0 _ ?side1 ?side2 A2.out).mono ?_); (case side1 => repeat (first | (with_reducible first | exact HI0.out | apply IsS81.alloc | apply IsS81.drewN | apply IsS81.drew | apply IsS81.set_1 | apply IsS81.set_2 | refine IsS81.far ?_ NB0_335.out _) | exact HI0.out)); (case side2 => repeat (first | (with_reducible first | exact HB.out | apply below_alloc | apply pw_below_drewN | apply below_drew1 | refine below_set ?_ (IsS81.ge HI0.out) | refine below_set ?_ GE335.out) | exact HB.out)); rintro e w5 ⟨v338, rfl, ho0, hi, hb, hk⟩; refine ⟨_, rfl, ?_⟩; replace BK335 := zA (KeepBut.blk hk (g' := gb335) (o := .cells #[.int .i64 0, .slice none 0 0] 26 (0, 0)) (uB BK335.out) NB335_0.out (by simp)); have HO339 := zA (Kd.R_lower ho0 (keep_size (w := w) (g := g) (row := none) (by repeat (first | (with_reducible first | exact HK.out | apply KeepBut.set_ | apply keep_drewN | apply keep_drew | apply keep_alloc | refine keep_far ?_ GW335.out _) | exact HK.out)))); replace HK := zA (KeepBut.trans (by repeat (first | (with_reducible first | exact HK.out | apply KeepBut.set_ | apply keep_drewN | apply keep_drew | apply keep_alloc | refine keep_far ?_ GW335.out _) | exact HK.out)) hk (.inl rfl)); replace HB := zA (hb); replace HI0 := zA (hi); (try clear hb); (try clear hb2); (try clear hk); (try clear hi); (try clear ho0); obtain ⟨Ao6, co6, eo6⟩ := Kd.R_slice HO339.out; subst eo6) | ((with_reducible refine gate_callee (f := 76) rfl ?_); refine gL (some 6) Try.func76 #[.pointer (some ⟨g, 0, none⟩), .agg #[.int .i64 t336, .slice Ao6 t337.length co6]] ?_; (with_reducible refine (spec_l02Bad.calls k g s0_0 t340 t341 t336 (fun k_ => some k_ = (.slice Ao6 t337.length co6 : Value).ownBlock) (.slice Ao6 t337.length co6) t337 t342 t343 t346 t347 w0 _ ?side1 ?side2 ?side3 A3.out).mono ?_); (case side1 => repeat (first | (with_reducible first | exact HI0.out | apply IsS81.alloc | apply IsS81.drewN | apply IsS81.drew | apply IsS81.set_1 | apply IsS81.set_2 | refine IsS81.far ?_ NB0_335.out _) | exact HI0.out)); (case side2 => repeat (first | (with_reducible first | exact HB.out | apply below_alloc | apply pw_below_drewN | apply below_drew1 | refine below_set ?_ (IsS81.ge HI0.out) | refine below_set ?_ GE335.out) | exact HB.out)); (case side3 => exact Kd.R_lower (Kd.R_tight rfl HO339.out) HL.out); rintro e w7 ⟨v344, rfl, ho0, hi, hb, hkp⟩; refine ⟨_, rfl, ?_⟩; replace HI0 := zA (hi); replace BK335 := zA (blk_kept (uB BK335.out) hkp (fun hs_ => Or.elim hs_ (fun hs_ => (fun e_ => (Kd.R_ne HO339.out BK335.out (by decide)) e_) hs_) (fun e_ => NB335_0.out e_))); have HO345 := zA (Kd.R_mono (ok' := fun k_ => True) (Kd.R_raise (d := (Kd.int .i64)) (b := w0.heap.size) (b' := w.heap.size) (fun _ _ _ _ h_ => h_) ho0 (fun k_ e_ => Or.elim (ho0.1 k_ e_) (fun hs_ => (fun e_ => Kd.R_base HO339.out k_ e_.symm) hs_) (fun hn_ => Nat.le_trans (keep_size (w := w) (g := g) (row := none) (by repeat (first | (with_reducible first | exact HK.out | apply KeepBut.set_ | apply keep_drewN | apply keep_drew | apply keep_alloc | refine keep_far ?_ GW335.out _) | exact HK.out))) hn_))) (fun k_ hk_ => trivial)); replace HK := zA (Kept.keepG (by repeat (first | (with_reducible first | exact HK.out | apply KeepBut.set_ | apply keep_drewN | apply keep_drew | apply keep_alloc | refine keep_far ?_ GW335.out _) | exact HK.out)) hkp (fun k_ hs_ => Or.elim hs_ (fun hs_ => (fun e_ => .inr (Kd.R_base HO339.out k_ e_.symm)) hs_) (fun e_ => .inl e_))); replace HB := zA (hb); clear HO339; (try clear hb); (try clear hkp); (try clear ho0); have hnb8 := NB335_0.out; have hnc8 := NB0_335.out; have hcz9_0 := bc BK335 0; have hcz9_1 := bc BK335 1; have hfz9_0 := bf BK335 0; have hfz9_1 := bf BK335 1; obtain ⟨Ao10, co10, eo10⟩ := Kd.R_slice HO345.out; subst eo10))
 refine bodyPost_ret (results_cell_row rfl _ _ gb335 26 #[.int .i64 t342, .slice Ao10 t343.length co10] (0, 0) _ rfl (by (repeat refine up1 ?_); refine blk_put (cs := #[.int .i64 t342, .slice none 0 0]) ?_ 1 _ rfl; (repeat refine up1 ?_); refine blk_put (cs := #[.int .i64 0, .slice none 0 0]) ?_ 0 _ rfl; (repeat refine up1 ?_); exact BK335.out) Try.underlying26 rfl (by kernel_rfl)) rfl ?_
 exact ⟨_, by first | rfl | (simp [errW_none, errW_some] <;> rfl) | (simp [*, errW_none, errW_some] <;> rfl), uR (Kd.R_mono (Kd.R_far (p := ⟨gb335, 1, none⟩) (Kd.R_far (p := ⟨gb335, 0, none⟩) (Kd.R_types HO345.out BK335.out (by decide)) (fun _ hk => hk.2) (.int .i64 t342)) (fun _ hk => hk.2) (.slice Ao10 t343.length co10)) (fun _ hk => trivial)), by repeat (first | (with_reducible first | exact HI0.out | apply IsS81.alloc | apply IsS81.drewN | apply IsS81.drew | apply IsS81.set_1 | apply IsS81.set_2 | refine IsS81.far ?_ NB0_335.out _) | exact HI0.out), by repeat (first | (with_reducible first | exact HB.out | apply below_alloc | apply pw_below_drewN | apply below_drew1 | refine below_set ?_ (IsS81.ge HI0.out) | refine below_set ?_ GE335.out) | exact HB.out), by repeat (first | (with_reducible first | exact HK.out | apply KeepBut.set_ | apply keep_drewN | apply keep_drew | apply keep_alloc | refine keep_far ?_ GW335.out _) | exact HK.out)⟩
/-! ### spec_DrawCutMoments: function 18 -/
def spec_DrawCutMoments.f (k : Nat) (l0 : List Int) : Option (Int × List Int × Int) := (spec_l01From.f k l0).bind fun bt571 => ((spec_l02Spoil.f k bt571.1 bt571.2.1 bt571.2.2).bind fun bt575 => ((spec_l01Next.f bt571.1 bt575.2.2.1 bt575.2.2.2 (wrap64 ((bt575.2.1.length : Int) + 2))).bind fun bt582 => (some (bt575.1, bt575.2.1, bt582.1))))
def spec_DrawCutMoments.T3 : Bool × List (List Nat × List Nat) := (true, [([], []), ([], []), ([], []), ([2], [2]), ([3], [3]), ([4], [4]), ([1, 5], [1, 5]), ([0, 6, 0], [0]), ([6, 7, 0, 1, 2, 3, 4, 5, 6, 7], [6])])
def spec_DrawCutMoments.B3 : List Nat := [0, 0, 0, 4, 12, 28, 62, 127, 255]
theorem spec_DrawCutMoments.tab3 : rtab .any (opsOf Try.f18 3) = spec_DrawCutMoments.T3 := by kernel_rfl
theorem spec_DrawCutMoments.bits3 : waitsOk spec_DrawCutMoments.T3.2 spec_DrawCutMoments.B3 = true := by kernel_rfl
set_option maxHeartbeats 8000000 in
set_option maxRecDepth 100000 in
theorem spec_DrawCutMoments.calls (k : Nat) (A0 : Option Addr) (c0 : Nat) (l0 : List Int) (r1 : Int) (r2 : List Int) (r3 : Int) (w : World) (hr0 : Kd.C (Kd.int .u8) w A0 l0.length l0) (hc0 : l0.length ≤ c0) (h : spec_DrawCutMoments.f k l0 = some (r1, r2, r3)) :
  Calls Try.prog 18 #[.slice A0 l0.length c0] w fun e w' => ∃ v1_ : Value, e = .returned (.tuple #[.agg #[.int .i64 r1, v1_], .int .i64 r3]) ∧ Kd.R (Kd.int .i64) 2 w' w.heap.size (fun _ => True) v1_ r2 ∧ Below w.heap.size w w' := by
 have hu26 := Try.underlying26
 have HR0 := zA hr0
 have HC0 := zA hc0
 clear hr0 hc0
 have HB := zA (Below.refl w.heap.size w)
 have H : ((spec_l01From.f k l0).bind fun bt571 => ((spec_l02Spoil.f k bt571.1 bt571.2.1 bt571.2.2).bind fun bt575 => ((spec_l01Next.f bt571.1 bt575.2.2.1 bt575.2.2.2 (wrap64 ((bt575.2.1.length : Int) + 2))).bind fun bt582 => (some (bt575.1, bt575.2.1, bt582.1))))) = some (r1, r2, r3) := h
 clear h
 replace H := Option.bind_eq_some_iff.mp H
 obtain ⟨⟨t571, t572, t573⟩, A20, H⟩ := H
 replace H : ((spec_l02Spoil.f k t571 t572 t573).bind fun bt575 => ((spec_l01Next.f t571 bt575.2.2.1 bt575.2.2.2 (wrap64 ((bt575.2.1.length : Int) + 2))).bind fun bt582 => (some (bt575.1, bt575.2.1, bt582.1)))) = some (r1, r2, r3) := H
 have A2 := zA A20
 clear A20
 replace H := Option.bind_eq_some_iff.mp H
 obtain ⟨⟨t575, t576, t579, t580⟩, A30, H⟩ := H
 replace H : ((spec_l01Next.f t571 t579 t580 (wrap64 ((t576.length : Int) + 2))).bind fun bt582 => (some (t575, t576, bt582.1))) = some (r1, r2, r3) := H
 have A3 := zA A30
 clear A30
 replace H := Option.bind_eq_some_iff.mp H
 obtain ⟨⟨t582, t583, t584⟩, A40, H⟩ := H
 replace H : (some (t575, t576, t582)) = some (r1, r2, r3) := H
 have A4 := zA A40
 clear A40
 simp only [Option.some.injEq, Prod.mk.injEq] at H
 obtain ⟨rfl, rfl, rfl⟩ := H
 go_enter Try.func18, Try.ntmps18
 try go_wp2_with (first | ((with_reducible refine gate_dst (N := 2) rfl ?_); refine bx 2 #[.int .i64 0, .slice none 0 0] 26 ?_; intro gb570 hg w5 hbox hb; have BK570 := zA (hbox); have GW570 := gq HB hg; have GE570 := gq HB hg; replace HB := xH HB hb; have := geI GE570; clear hb hbox hg) | ((with_reducible refine gate_callee (f := 47) rfl ?_); refine gL (some 7) Try.func47 #[.slice A0 l0.length c0] ?_; (with_reducible refine (spec_l01From.calls k _ _ l0 t571 t572 t573 w _ ?side1 ?side2 ?side3 A2.out).mono ?_); (case side1 => repeat (first | (with_reducible first | exact HB.out | apply below_alloc | apply pw_below_drewN | apply below_drew1 | refine below_set ?_ GE570.out) | exact HB.out)); (case side2 => exact HR0.out); (case side3 => exact HC0.out); rintro e w6 ⟨g574, rfl, hi, hb, hb2⟩; refine ⟨_, rfl, ?_⟩; replace HB := zA (hb); have HI574 := zA (hi); have NB574_570 := zA (IsS81.ne_blk hi (blk_below (g := gb570) (o := .cells #[.int .i64 0, .slice none 0 0] 26 (0, 0)) (uB BK570.out) hb2) (by decide)); have NB570_574 := zA (Ne.symm (IsS81.ne_blk hi (blk_below (g := gb570) (o := .cells #[.int .i64 0, .slice none 0 0] 26 (0, 0)) (uB BK570.out) hb2) (by decide))); replace BK570 := xB BK570 hb2; (try clear hb); (try clear hb2); (try clear hk); (try clear hi)) | ((with_reducible refine gate_callee (f := 46) rfl ?_); refine gL (some 9) Try.func46 #[.pointer (some ⟨g574, 0, none⟩)] ?_; (with_reducible refine (spec_l02Spoil.calls k g574 t571 t572 t573 t575 t576 t579 t580 w _ ?side1 ?side2 A3.out).mono ?_); (case side1 => repeat (first | (with_reducible first | exact HI574.out | apply IsS81.alloc | apply IsS81.drewN | apply IsS81.drew | apply IsS81.set_1 | apply IsS81.set_2 | refine IsS81.far ?_ NB574_570.out _) | exact HI574.out)); (case side2 => repeat (first | (with_reducible first | exact HB.out | apply below_alloc | apply pw_below_drewN | apply below_drew1 | refine below_set ?_ (IsS81.ge HI574.out) | refine below_set ?_ GE570.out) | exact HB.out)); rintro e w7 ⟨v577, rfl, ho0, hi, hb, hk⟩; refine ⟨_, rfl, ?_⟩; replace BK570 := zA (KeepBut.blk hk (g' := gb570) (o := .cells #[.int .i64 0, .slice none 0 0] 26 (0, 0)) (uB BK570.out) NB570_574.out (by simp)); have HO578 := zA (Kd.R_lower ho0 (below_size (by repeat (first | (with_reducible first | exact HB.out | apply below_alloc | apply pw_below_drewN | apply below_drew1 | refine below_set ?_ (IsS81.ge HI574.out) | refine below_set ?_ GE570.out) | exact HB.out)))); replace HB := zA (hb); replace HI574 := zA (hi); (try clear hb); (try clear hb2); (try clear hk); (try clear hi); (try clear ho0)) | ((with_reducible refine gate_dst (N := 5) rfl ?_); refine bx 5 #[.int .i64 0, .slice none 0 0] 26 ?_; intro gb581 hg w8 hbox hb; replace HO578 := xR HO578 hb; have BK581 := zA (hbox); have GW581 := zA ((by rw [hg]; exact (below_size (by repeat (first | (with_reducible first | exact HB.out | apply below_alloc | apply pw_below_drewN | apply below_drew1 | refine below_set ?_ (IsS81.ge HI574.out) | refine below_set ?_ GE570.out) | exact HB.out))) : w.heap.size ≤ gb581)); have GE581 := zA ((by rw [hg]; exact (below_size (by repeat (first | (with_reducible first | exact HB.out | apply below_alloc | apply pw_below_drewN | apply below_drew1 | refine below_set ?_ (IsS81.ge HI574.out) | refine below_set ?_ GE570.out) | exact HB.out))) : w.heap.size ≤ gb581)); replace HB := zA (below_step (by repeat (first | (with_reducible first | exact HB.out | apply below_alloc | apply pw_below_drewN | apply below_drew1 | refine below_set ?_ (IsS81.ge HI574.out) | refine below_set ?_ GE570.out) | exact HB.out)) hb); have NB570_581 := zA ((by rw [hg]; exact neL BK570 : gb570 ≠ gb581)); have NB581_570 := zA ((by rw [hg]; exact neG BK570 : gb581 ≠ gb570)); replace BK570 := xB BK570 hb; have NB574_581 := zA ((by rw [hg]; exact Nat.ne_of_lt (IsS81.lt (show IsS81 w _ g574 t571 t579 t580 from by repeat (first | (with_reducible first | exact HI574.out | apply IsS81.alloc | apply IsS81.drewN | apply IsS81.drew | apply IsS81.set_1 | apply IsS81.set_2 | refine IsS81.far ?_ NB574_570.out _) | exact HI574.out))) : g574 ≠ gb581)); have NB581_574 := zA ((by rw [hg]; exact Nat.ne_of_gt (IsS81.lt (show IsS81 w _ g574 t571 t579 t580 from by repeat (first | (with_reducible first | exact HI574.out | apply IsS81.alloc | apply IsS81.drewN | apply IsS81.drew | apply IsS81.set_1 | apply IsS81.set_2 | refine IsS81.far ?_ NB574_570.out _) | exact HI574.out))) : gb581 ≠ g574)); replace HI574 := zA (IsS81.below (by repeat (first | (with_reducible first | exact HI574.out | apply IsS81.alloc | apply IsS81.drewN | apply IsS81.drew | apply IsS81.set_1 | apply IsS81.set_2 | refine IsS81.far ?_ NB574_570.out _) | exact HI574.out)) hb); have := geI GE581; clear hb hbox hg; have hnb9 := NB581_570.out; have hnc9 := NB570_581.out; have hnb10 := NB581_574.out; have hnc10 := NB574_581.out; have hcz11_0 := bc BK581 0; have hcz11_1 := bc BK581 1; have hfz11_0 := bf BK581 0; have hfz11_1 := bf BK581 1; obtain ⟨Ao12, co12, eo12⟩ := Kd.R_slice HO578.out; subst eo12))
 have n0_ : Aside0 (Kd.R (Kd.int .i64) 2 ((w8.setCell ⟨gb581, 0, none⟩ (.int .i64 t575)).setCell ⟨gb581, 1, none⟩ (.slice Ao12 t576.length co12)) w.heap.size (fun _ => True) (.slice Ao12 t576.length co12) t576) := ⟨uR (Kd.R_mono (Kd.R_far (p := ⟨gb581, 1, none⟩) (Kd.R_far (p := ⟨gb581, 0, none⟩) (Kd.R_types HO578.out BK581.out (by decide)) (fun _ hk => hk.2) (.int .i64 t575)) (fun _ hk => hk.2) (.slice Ao12 t576.length co12)) (fun _ hk => trivial))⟩
 have n1_ : Aside0 (((w8.setCell ⟨gb581, 0, none⟩ (.int .i64 t575)).setCell ⟨gb581, 1, none⟩ (.slice Ao12 t576.length co12)).heap[gb570]? = some (.cells #[.int .i64 0, .slice none 0 0] 26 (0, 0))) := ⟨by (repeat refine up1 ?_); refine blk_far ?_ NB570_581.out _; (repeat refine up1 ?_); refine blk_far ?_ NB570_581.out _; (repeat refine up1 ?_); exact BK570.out⟩
 have n2_ : Aside0 (((w8.setCell ⟨gb581, 0, none⟩ (.int .i64 t575)).setCell ⟨gb581, 1, none⟩ (.slice Ao12 t576.length co12)).heap[gb581]? = some (.cells #[.int .i64 t575, .slice Ao12 t576.length co12] 26 (0, 0))) := ⟨by (repeat refine up1 ?_); refine blk_put (cs := #[.int .i64 t575, .slice none 0 0]) ?_ 1 _ rfl; (repeat refine up1 ?_); refine blk_put (cs := #[.int .i64 0, .slice none 0 0]) ?_ 0 _ rfl; (repeat refine up1 ?_); exact BK581.out⟩
 have n3_ : Aside0 (IsS81 w ((w8.setCell ⟨gb581, 0, none⟩ (.int .i64 t575)).setCell ⟨gb581, 1, none⟩ (.slice Ao12 t576.length co12)) g574 t571 t579 t580) := ⟨by repeat (first | (with_reducible first | exact HI574.out | apply IsS81.alloc | apply IsS81.drewN | apply IsS81.drew | apply IsS81.set_1 | apply IsS81.set_2 | refine IsS81.far ?_ NB574_570.out _ | refine IsS81.far ?_ NB574_581.out _) | exact HI574.out)⟩
 have n4_ : Aside0 (Below w.heap.size w ((w8.setCell ⟨gb581, 0, none⟩ (.int .i64 t575)).setCell ⟨gb581, 1, none⟩ (.slice Ao12 t576.length co12))) := ⟨by repeat (first | (with_reducible first | exact HB.out | apply below_alloc | apply pw_below_drewN | apply below_drew1 | refine below_set ?_ (IsS81.ge HI574.out) | refine below_set ?_ GE570.out | refine below_set ?_ GE581.out) | exact HB.out)⟩
 (try clear HO578); (try clear BK570); (try clear BK581); (try clear HI574); (try clear HB)
 generalize ((w8.setCell ⟨gb581, 0, none⟩ (.int .i64 t575)).setCell ⟨gb581, 1, none⟩ (.slice Ao12 t576.length co12)) = w13 at n0_ n1_ n2_ n3_ n4_ ⊢
 have HO578 := n0_
 have BK570 := n1_
 have BK581 := n2_
 have HI574 := n3_
 have HB := n4_
 clear n0_ n1_ n2_ n3_ n4_
 replace HO578 := zA (Kd.R_drew HO578.out)
 replace BK570 := zA (blk_drew BK570.out)
 replace BK581 := zA (blk_drew BK581.out)
 replace HI574 := zA (IsS81.drew HI574.out)
 replace HB := zA (below_drew1 HB.out)
 refine start_ (n := 9) (S := fun w' => w'.cell? ⟨gb581, 0, none⟩ = some (.int .i64 t575) ∧ w'.cell? ⟨gb581, 1, none⟩ = some (.slice Ao12 t576.length co12)) (ds := []) #[false, false, false, false, false, false, false, false, false] (by kernel_rfl) rfl rfl ⟨bcu BK581 0, bcu BK581 1⟩ (fun hHeld => ?_); refine with_tabW spec_DrawCutMoments.tab3 spec_DrawCutMoments.bits3 (fun HT_ HW_ => ?_)
 generalize w13.drew = w14 at HO578 BK570 BK581 HI574 HB hHeld ⊢
 refine pu_ 1 11 (bl 9 2) HT_ ?_
 refine pu_ 2 12 (bl 9 6) HT_ ?_
 refine ta_ 0 10 (bl 9 7) HT_ HW_ hHeld ?_
 refine ta_ 3 13 (bl 9 15) HT_ HW_ hHeld ?_
 refine pu_ 4 14 (bl 9 31) HT_ ?_
 refine pu_ 5 15 (bl 9 63) HT_ ?_
 refine on_ 6 (some 16) (bl 9 127) HT_ (fun K hK => ?_)
 refine gS Try.func51 #[.pointer (some ⟨g574, 0, none⟩), .int .i64 (wrap64 ((t576.length : Int) + 2))] ?_
 with_reducible refine (spec_l01Next.calls g574 t571 t579 t580 (wrap64 ((t576.length : Int) + 2)) t582 t583 t584 w _ ?side1 ?side2 A4.out).mono ?_
 (case side1 => repeat (first | (with_reducible first | exact HI574.out | apply IsS81.alloc | apply IsS81.drewN | apply IsS81.drew | apply IsS81.set_1 | apply IsS81.set_2 | refine IsS81.far ?_ NB574_570.out _ | refine IsS81.far ?_ NB574_581.out _) | exact HI574.out))
 (case side2 => repeat (first | (with_reducible first | exact HB.out | apply below_alloc | apply pw_below_drewN | apply below_drew1 | refine below_set ?_ (IsS81.ge HI574.out) | refine below_set ?_ GE570.out | refine below_set ?_ GE581.out) | exact HB.out))
 rintro e w15 ⟨rfl, hi, hb, hk⟩
 refine ⟨_, rfl, ?_⟩
 replace BK570 := zA (KeepBut.blk hk (g' := gb570) (o := .cells #[.int .i64 0, .slice none 0 0] 26 (0, 0)) (uB BK570.out) NB570_574.out (by simp))
 replace HO578 := zA (Kd.R_mono (Kd.R_keep (IsS81.apart (show IsS81 w _ g574 t571 t579 t580 from by repeat (first | (with_reducible first | exact HI574.out | apply IsS81.alloc | apply IsS81.drewN | apply IsS81.drew | apply IsS81.set_1 | apply IsS81.set_2 | refine IsS81.far ?_ NB574_570.out _ | refine IsS81.far ?_ NB574_581.out _) | exact HI574.out)) (uR HO578.out) (by decide)) hk (fun _ h => h.2)) (fun _ h => h.1))
 replace BK581 := zA (KeepBut.blk hk (g' := gb581) (o := .cells #[.int .i64 t575, .slice Ao12 t576.length co12] 26 (0, 0)) (uB BK581.out) NB581_574.out (by simp))
 replace HB := zA (hb)
 replace HI574 := zA (hi)
 (try clear hb); (try clear hb2); (try clear hk); (try clear hi)
 refine hK.out _ _ ⟨bcu BK581 0, bcu BK581 1⟩ (fun hHeld => ?_)
 clear hK K
 refine no_ 16 ?_
 refine on_ 7 (none) (bl 9 255) HT_ (fun K hK => ?_)
 have hs16 : w15.cell? ⟨gb570, 0, none⟩ = some (.int .i64 0) := (blk_cell BK570.out 0).trans rfl
 have hfs16 := bf BK570 0
 have hns16_1 := NB581_570.out; have hms16_1 := NB570_581.out
 have hs17 : w15.cell? ⟨gb570, 1, none⟩ = some (.slice none 0 0) := (blk_cell BK570.out 1).trans rfl
 have hfs17 := bf BK570 1
 have hns17_1 := NB581_570.out; have hms17_1 := NB570_581.out
 refine skip_ (w1 := ?_) (by rfl) rfl ?_ ?_
 rotate_left
 ·go_simp
  rfl
 refine hK.out _ _ ⟨((cell_far (p := ⟨gb570, _, none⟩) NB581_570.out _).trans (((cell_far (p := ⟨gb570, _, none⟩) NB581_570.out _).trans (hHeld.1)))), ((cell_far (p := ⟨gb570, _, none⟩) NB581_570.out _).trans (((cell_far (p := ⟨gb570, _, none⟩) NB581_570.out _).trans (hHeld.2))))⟩ (fun hHeld => ?_)
 clear hK K
 refine pu_ 8 3 (bl 9 511) HT_ ?_
 refine done_ (done_of HT_.out (by kernel_rfl)) ?_
 try go_wp2
 refine bodyPost_ret (results_ct rfl _ _ gb570 26 #[.int .i64 t575, .slice Ao12 t576.length co12] (0, 0) _ rfl (by (repeat refine up1 ?_); refine blk_put (cs := #[.int .i64 t575, .slice none 0 0]) ?_ 1 _ rfl; (repeat refine up1 ?_); refine blk_put (cs := #[.int .i64 0, .slice none 0 0]) ?_ 0 _ rfl; (repeat refine up1 ?_); exact BK570.out) Try.underlying26 rfl (by kernel_rfl)) rfl ?_
 exact ⟨_, by first | rfl | (simp [errW_none, errW_some] <;> rfl) | (simp [*, errW_none, errW_some] <;> rfl), uR (Kd.R_mono (Kd.R_far (p := ⟨gb570, 1, none⟩) (Kd.R_far (p := ⟨gb570, 0, none⟩) (Kd.R_types HO578.out BK570.out (by decide)) (fun _ hk => hk.2) (.int .i64 t575)) (fun _ hk => hk.2) (.slice Ao12 t576.length co12)) (fun _ hk => trivial)), by repeat (first | (with_reducible first | exact HB.out | apply below_alloc | apply pw_below_drewN | apply below_drew1 | refine below_set ?_ (IsS81.ge HI574.out) | refine below_set ?_ GE570.out | refine below_set ?_ GE581.out) | exact HB.out)⟩
/-! ### spec_DrawShiftMoments: function 15 -/
def spec_DrawShiftMoments.f (k : Nat) (l0 : List Int) : Option (Int × List Int) := (spec_l01From.f k l0).bind fun bt540 => ((spec_l02Spoil.f k bt540.1 bt540.2.1 bt540.2.2).bind fun bt544 => (some (bt544.1, bt544.2.1)))
set_option maxHeartbeats 8000000 in
set_option maxRecDepth 100000 in
theorem spec_DrawShiftMoments.calls (k : Nat) (A0 : Option Addr) (c0 : Nat) (l0 : List Int) (r1 : Int) (r2 : List Int) (w : World) (hr0 : Kd.C (Kd.int .u8) w A0 l0.length l0) (hc0 : l0.length ≤ c0) (h : spec_DrawShiftMoments.f k l0 = some (r1, r2)) :
  Calls Try.prog 15 #[.slice A0 l0.length c0] w fun e w' => ∃ v1_ : Value, e = .returned (.agg #[.int .i64 r1, v1_]) ∧ Kd.R (Kd.int .i64) 2 w' w.heap.size (fun _ => True) v1_ r2 ∧ Below w.heap.size w w' := by
 have hu26 := Try.underlying26
 have HR0 := zA hr0
 have HC0 := zA hc0
 clear hr0 hc0
 have HB := zA (Below.refl w.heap.size w)
 have H : ((spec_l01From.f k l0).bind fun bt540 => ((spec_l02Spoil.f k bt540.1 bt540.2.1 bt540.2.2).bind fun bt544 => (some (bt544.1, bt544.2.1)))) = some (r1, r2) := h
 clear h
 replace H := Option.bind_eq_some_iff.mp H
 obtain ⟨⟨t540, t541, t542⟩, A20, H⟩ := H
 replace H : ((spec_l02Spoil.f k t540 t541 t542).bind fun bt544 => (some (bt544.1, bt544.2.1))) = some (r1, r2) := H
 have A2 := zA A20
 clear A20
 replace H := Option.bind_eq_some_iff.mp H
 obtain ⟨⟨t544, t545, t548, t549⟩, A30, H⟩ := H
 replace H : (some (t544, t545)) = some (r1, r2) := H
 have A3 := zA A30
 clear A30
 simp only [Option.some.injEq, Prod.mk.injEq] at H
 obtain ⟨rfl, rfl⟩ := H
 go_enter Try.func15, Try.ntmps15
 go_wp2_with (first | ((with_reducible refine gate_dst (N := 2) rfl ?_); refine bx 2 #[.int .i64 0, .slice none 0 0] 26 ?_; intro gb539 hg w4 hbox hb; have BK539 := zA (hbox); have GW539 := gq HB hg; have GE539 := gq HB hg; replace HB := xH HB hb; have := geI GE539; clear hb hbox hg) | ((with_reducible refine gate_callee (f := 47) rfl ?_); refine gL (some 4) Try.func47 #[.slice A0 l0.length c0] ?_; (with_reducible refine (spec_l01From.calls k _ _ l0 t540 t541 t542 w _ ?side1 ?side2 ?side3 A2.out).mono ?_); (case side1 => repeat (first | (with_reducible first | exact HB.out | apply below_alloc | apply pw_below_drewN | apply below_drew1 | refine below_set ?_ GE539.out) | exact HB.out)); (case side2 => exact HR0.out); (case side3 => exact HC0.out); rintro e w5 ⟨g543, rfl, hi, hb, hb2⟩; refine ⟨_, rfl, ?_⟩; replace HB := zA (hb); have HI543 := zA (hi); have NB543_539 := zA (IsS81.ne_blk hi (blk_below (g := gb539) (o := .cells #[.int .i64 0, .slice none 0 0] 26 (0, 0)) (uB BK539.out) hb2) (by decide)); have NB539_543 := zA (Ne.symm (IsS81.ne_blk hi (blk_below (g := gb539) (o := .cells #[.int .i64 0, .slice none 0 0] 26 (0, 0)) (uB BK539.out) hb2) (by decide))); replace BK539 := xB BK539 hb2; (try clear hb); (try clear hb2); (try clear hk); (try clear hi)) | ((with_reducible refine gate_callee (f := 46) rfl ?_); refine gL (some 5) Try.func46 #[.pointer (some ⟨g543, 0, none⟩)] ?_; (with_reducible refine (spec_l02Spoil.calls k g543 t540 t541 t542 t544 t545 t548 t549 w _ ?side1 ?side2 A3.out).mono ?_); (case side1 => repeat (first | (with_reducible first | exact HI543.out | apply IsS81.alloc | apply IsS81.drewN | apply IsS81.drew | apply IsS81.set_1 | apply IsS81.set_2 | refine IsS81.far ?_ NB543_539.out _) | exact HI543.out)); (case side2 => repeat (first | (with_reducible first | exact HB.out | apply below_alloc | apply pw_below_drewN | apply below_drew1 | refine below_set ?_ (IsS81.ge HI543.out) | refine below_set ?_ GE539.out) | exact HB.out)); rintro e w6 ⟨v546, rfl, ho0, hi, hb, hk⟩; refine ⟨_, rfl, ?_⟩; replace BK539 := zA (KeepBut.blk hk (g' := gb539) (o := .cells #[.int .i64 0, .slice none 0 0] 26 (0, 0)) (uB BK539.out) NB539_543.out (by simp)); have HO547 := zA (Kd.R_lower ho0 (below_size (by repeat (first | (with_reducible first | exact HB.out | apply below_alloc | apply pw_below_drewN | apply below_drew1 | refine below_set ?_ (IsS81.ge HI543.out) | refine below_set ?_ GE539.out) | exact HB.out)))); replace HB := zA (hb); replace HI543 := zA (hi); (try clear hb); (try clear hb2); (try clear hk); (try clear hi); (try clear ho0); have hnb7 := NB539_543.out; have hnc7 := NB543_539.out; have hcz8_0 := bc BK539 0; have hcz8_1 := bc BK539 1; have hfz8_0 := bf BK539 0; have hfz8_1 := bf BK539 1; obtain ⟨Ao9, co9, eo9⟩ := Kd.R_slice HO547.out; subst eo9))
 refine bodyPost_ret (results_cell_row rfl _ _ gb539 26 #[.int .i64 t544, .slice Ao9 t545.length co9] (0, 0) _ rfl (by (repeat refine up1 ?_); refine blk_put (cs := #[.int .i64 t544, .slice none 0 0]) ?_ 1 _ rfl; (repeat refine up1 ?_); refine blk_put (cs := #[.int .i64 0, .slice none 0 0]) ?_ 0 _ rfl; (repeat refine up1 ?_); exact BK539.out) Try.underlying26 rfl (by kernel_rfl)) rfl ?_
 exact ⟨_, by first | rfl | (simp [errW_none, errW_some] <;> rfl) | (simp [*, errW_none, errW_some] <;> rfl), uR (Kd.R_mono (Kd.R_far (p := ⟨gb539, 1, none⟩) (Kd.R_far (p := ⟨gb539, 0, none⟩) (Kd.R_types HO547.out BK539.out (by decide)) (fun _ hk => hk.2) (.int .i64 t544)) (fun _ hk => hk.2) (.slice Ao9 t545.length co9)) (fun _ hk => trivial)), by repeat (first | (with_reducible first | exact HB.out | apply below_alloc | apply pw_below_drewN | apply below_drew1 | refine below_set ?_ (IsS81.ge HI543.out) | refine below_set ?_ GE539.out) | exact HB.out)⟩
/-! ### spec_l02With: function 29 -/
def spec_l02With.f (k : Nat) (l0 : List Int) : Option (Int × List Int × List Int) := (spec_l01From.f k l0).bind fun bt397 => ((spec_l02Spoil.f k bt397.1 bt397.2.1 bt397.2.2).bind fun bt401 => ((spec_l01Fine.f k bt401.1).bind fun t408 => ((spec_l01Next.f bt397.1 bt401.2.2.1 bt401.2.2.2 16).bind fun bt409 => ((spec_l01DrawPoly.f k bt397.1 bt409.2.1 bt409.2.2 t408 (mn (wrap64 ((wrap64 ((bt401.2.1.length : Int) - 1)) + (wrap64 (Int.tdiv bt409.1 15)))) 24)).bind fun bt412 => (some (bt401.1, bt401.2.1, bt412.1))))))
def spec_l02With.T3 : Bool × List (List Nat × List Nat) := (true, [([], []), ([], []), ([], []), ([2], [2]), ([3], [3]), ([], []), ([5], [5]), ([6], [6]), ([7], [7]), ([], []), ([9, 4], [9]), ([10], [10]), ([8, 11], [8, 11]), ([12], [12]), ([1, 4, 13, 10], [1, 4, 13]), ([0, 14, 0], [0]), ([14, 15, 0, 1, 2, 3, 4, 5, 6, 7, 8, 9, 10, 11, 12, 13, 14, 15], [14])])
def spec_l02With.B3 : List Nat := [0, 0, 0, 4, 12, 0, 32, 96, 224, 0, 540, 1564, 4092, 8188, 16382, 32767, 65535]
theorem spec_l02With.tab3 : rtab .any (opsOf Try.f29 3) = spec_l02With.T3 := by kernel_rfl
theorem spec_l02With.bits3 : waitsOk spec_l02With.T3.2 spec_l02With.B3 = true := by kernel_rfl
set_option maxHeartbeats 8000000 in
set_option maxRecDepth 100000 in
theorem spec_l02With.calls (k : Nat) (A0 : Option Addr) (c0 : Nat) (l0 : List Int) (r1 : Int) (r2 : List Int) (r3 : List Int) (w : World) (hr0 : Kd.C (Kd.int .u8) w A0 l0.length l0) (hc0 : l0.length ≤ c0) (h : spec_l02With.f k l0 = some (r1, r2, r3)) :
  Calls Try.prog 29 #[.slice A0 l0.length c0] w fun e w' => ∃ v1_ v2_ : Value, e = .returned (.tuple #[.agg #[.int .i64 r1, v1_], v2_]) ∧ Kd.R (Kd.int .i64) 2 w' w.heap.size (fun k_ => some k_ ≠ (v2_ : Value).ownBlock) v1_ r2 ∧ Kd.R (Kd.int .i64) 2 w' w.heap.size (fun k_ => some k_ ≠ (v1_ : Value).ownBlock) v2_ r3 ∧ Below w.heap.size w w' := by
 have hu26 := Try.underlying26
 have HR0 := zA hr0
 have HC0 := zA hc0
 clear hr0 hc0
 have HB := zA (Below.refl w.heap.size w)
 have H : ((spec_l01From.f k l0).bind fun bt397 => ((spec_l02Spoil.f k bt397.1 bt397.2.1 bt397.2.2).bind fun bt401 => ((spec_l01Fine.f k bt401.1).bind fun t408 => ((spec_l01Next.f bt397.1 bt401.2.2.1 bt401.2.2.2 16).bind fun bt409 => ((spec_l01DrawPoly.f k bt397.1 bt409.2.1 bt409.2.2 t408 (mn (wrap64 ((wrap64 ((bt401.2.1.length : Int) - 1)) + (wrap64 (Int.tdiv bt409.1 15)))) 24)).bind fun bt412 => (some (bt401.1, bt401.2.1, bt412.1))))))) = some (r1, r2, r3) := h
 clear h
 replace H := Option.bind_eq_some_iff.mp H
 obtain ⟨⟨t397, t398, t399⟩, A20, H⟩ := H
 replace H : ((spec_l02Spoil.f k t397 t398 t399).bind fun bt401 => ((spec_l01Fine.f k bt401.1).bind fun t408 => ((spec_l01Next.f t397 bt401.2.2.1 bt401.2.2.2 16).bind fun bt409 => ((spec_l01DrawPoly.f k t397 bt409.2.1 bt409.2.2 t408 (mn (wrap64 ((wrap64 ((bt401.2.1.length : Int) - 1)) + (wrap64 (Int.tdiv bt409.1 15)))) 24)).bind fun bt412 => (some (bt401.1, bt401.2.1, bt412.1)))))) = some (r1, r2, r3) := H
 have A2 := zA A20
 clear A20
 replace H := Option.bind_eq_some_iff.mp H
 obtain ⟨⟨t401, t402, t405, t406⟩, A30, H⟩ := H
 replace H : ((spec_l01Fine.f k t401).bind fun t408 => ((spec_l01Next.f t397 t405 t406 16).bind fun bt409 => ((spec_l01DrawPoly.f k t397 bt409.2.1 bt409.2.2 t408 (mn (wrap64 ((wrap64 ((t402.length : Int) - 1)) + (wrap64 (Int.tdiv bt409.1 15)))) 24)).bind fun bt412 => (some (t401, t402, bt412.1))))) = some (r1, r2, r3) := H
 have A3 := zA A30
 clear A30
 replace H := Option.bind_eq_some_iff.mp H
 obtain ⟨t408, A40, H⟩ := H
 replace H : ((spec_l01Next.f t397 t405 t406 16).bind fun bt409 => ((spec_l01DrawPoly.f k t397 bt409.2.1 bt409.2.2 t408 (mn (wrap64 ((wrap64 ((t402.length : Int) - 1)) + (wrap64 (Int.tdiv bt409.1 15)))) 24)).bind fun bt412 => (some (t401, t402, bt412.1)))) = some (r1, r2, r3) := H
 have A4 := zA A40
 clear A40
 replace H := Option.bind_eq_some_iff.mp H
 obtain ⟨⟨t409, t410, t411⟩, A50, H⟩ := H
 replace H : ((spec_l01DrawPoly.f k t397 t410 t411 t408 (mn (wrap64 ((wrap64 ((t402.length : Int) - 1)) + (wrap64 (Int.tdiv t409 15)))) 24)).bind fun bt412 => (some (t401, t402, bt412.1))) = some (r1, r2, r3) := H
 have A5 := zA A50
 clear A50
 obtain ⟨ji6, hji6⟩ : ∃ j_ : Int, (mn (wrap64 ((wrap64 ((t402.length : Int) - 1)) + (wrap64 (Int.tdiv t409 15)))) 24) = j_ := ⟨_, rfl⟩
 replace H : ((spec_l01DrawPoly.f k t397 t410 t411 t408 (ji6)).bind fun bt412 => (some (t401, t402, bt412.1))) = some (r1, r2, r3) := by first | (rw [hji6] at H; exact H) | (simp only [hji6] at H ⊢; exact H)
 (try rw [hji6] at A2)
 (try rw [hji6] at A3)
 (try rw [hji6] at A4)
 (try rw [hji6] at A5)
 (try (have hji6h : ji6 ≤ 24 := by (rw [← hji6]; unfold mn; (repeat' split) <;> omega)))
 (try (have hji6g : ji6 ≤ 64 := by omega))
 have hji6_ : (if 24 < (wrap64 ((wrap64 ((t402.length : Int) - 1)) + (wrap64 (Int.tdiv t409 15)))) then 24 else (wrap64 ((wrap64 ((t402.length : Int) - 1)) + (wrap64 (Int.tdiv t409 15))))) = ji6 := hji6
 replace H := Option.bind_eq_some_iff.mp H
 obtain ⟨⟨t412, t415, t416⟩, A70, H⟩ := H
 replace H : (some (t401, t402, t412)) = some (r1, r2, r3) := H
 have A7 := zA A70
 clear A70
 simp only [Option.some.injEq, Prod.mk.injEq] at H
 obtain ⟨rfl, rfl, rfl⟩ := H
 go_enter Try.func29, Try.ntmps29
 try go_wp2_with (first | ((with_reducible refine gate_dst (N := 2) rfl ?_); refine bx 2 #[.int .i64 0, .slice none 0 0] 26 ?_; intro gb396 hg w8 hbox hb; have BK396 := zA (hbox); have GW396 := gq HB hg; have GE396 := gq HB hg; replace HB := xH HB hb; have := geI GE396; clear hb hbox hg) | ((with_reducible refine gate_callee (f := 47) rfl ?_); refine gL (some 7) Try.func47 #[.slice A0 l0.length c0] ?_; (with_reducible refine (spec_l01From.calls k _ _ l0 t397 t398 t399 w _ ?side1 ?side2 ?side3 A2.out).mono ?_); (case side1 => repeat (first | (with_reducible first | exact HB.out | apply below_alloc | apply pw_below_drewN | apply below_drew1 | refine below_set ?_ GE396.out) | exact HB.out)); (case side2 => exact HR0.out); (case side3 => exact HC0.out); rintro e w9 ⟨g400, rfl, hi, hb, hb2⟩; refine ⟨_, rfl, ?_⟩; replace HB := zA (hb); have HI400 := zA (hi); have NB400_396 := zA (IsS81.ne_blk hi (blk_below (g := gb396) (o := .cells #[.int .i64 0, .slice none 0 0] 26 (0, 0)) (uB BK396.out) hb2) (by decide)); have NB396_400 := zA (Ne.symm (IsS81.ne_blk hi (blk_below (g := gb396) (o := .cells #[.int .i64 0, .slice none 0 0] 26 (0, 0)) (uB BK396.out) hb2) (by decide))); replace BK396 := xB BK396 hb2; (try clear hb); (try clear hb2); (try clear hk); (try clear hi)) | ((with_reducible refine gate_callee (f := 46) rfl ?_); refine gL (some 9) Try.func46 #[.pointer (some ⟨g400, 0, none⟩)] ?_; (with_reducible refine (spec_l02Spoil.calls k g400 t397 t398 t399 t401 t402 t405 t406 w _ ?side1 ?side2 A3.out).mono ?_); (case side1 => repeat (first | (with_reducible first | exact HI400.out | apply IsS81.alloc | apply IsS81.drewN | apply IsS81.drew | apply IsS81.set_1 | apply IsS81.set_2 | refine IsS81.far ?_ NB400_396.out _) | exact HI400.out)); (case side2 => repeat (first | (with_reducible first | exact HB.out | apply below_alloc | apply pw_below_drewN | apply below_drew1 | refine below_set ?_ (IsS81.ge HI400.out) | refine below_set ?_ GE396.out) | exact HB.out)); rintro e w10 ⟨v403, rfl, ho0, hi, hb, hk⟩; refine ⟨_, rfl, ?_⟩; replace BK396 := zA (KeepBut.blk hk (g' := gb396) (o := .cells #[.int .i64 0, .slice none 0 0] 26 (0, 0)) (uB BK396.out) NB396_400.out (by simp)); have HO404 := zA (Kd.R_lower ho0 (below_size (by repeat (first | (with_reducible first | exact HB.out | apply below_alloc | apply pw_below_drewN | apply below_drew1 | refine below_set ?_ (IsS81.ge HI400.out) | refine below_set ?_ GE396.out) | exact HB.out)))); replace HB := zA (hb); replace HI400 := zA (hi); (try clear hb); (try clear hb2); (try clear hk); (try clear hi); (try clear ho0)) | ((with_reducible refine gate_dst (N := 5) rfl ?_); refine bx 5 #[.int .i64 0, .slice none 0 0] 26 ?_; intro gb407 hg w11 hbox hb; replace HO404 := xR HO404 hb; have BK407 := zA (hbox); have GW407 := zA ((by rw [hg]; exact (below_size (by repeat (first | (with_reducible first | exact HB.out | apply below_alloc | apply pw_below_drewN | apply below_drew1 | refine below_set ?_ (IsS81.ge HI400.out) | refine below_set ?_ GE396.out) | exact HB.out))) : w.heap.size ≤ gb407)); have GE407 := zA ((by rw [hg]; exact (below_size (by repeat (first | (with_reducible first | exact HB.out | apply below_alloc | apply pw_below_drewN | apply below_drew1 | refine below_set ?_ (IsS81.ge HI400.out) | refine below_set ?_ GE396.out) | exact HB.out))) : w.heap.size ≤ gb407)); replace HB := zA (below_step (by repeat (first | (with_reducible first | exact HB.out | apply below_alloc | apply pw_below_drewN | apply below_drew1 | refine below_set ?_ (IsS81.ge HI400.out) | refine below_set ?_ GE396.out) | exact HB.out)) hb); have NB396_407 := zA ((by rw [hg]; exact neL BK396 : gb396 ≠ gb407)); have NB407_396 := zA ((by rw [hg]; exact neG BK396 : gb407 ≠ gb396)); replace BK396 := xB BK396 hb; have NB400_407 := zA ((by rw [hg]; exact Nat.ne_of_lt (IsS81.lt (show IsS81 w _ g400 t397 t405 t406 from by repeat (first | (with_reducible first | exact HI400.out | apply IsS81.alloc | apply IsS81.drewN | apply IsS81.drew | apply IsS81.set_1 | apply IsS81.set_2 | refine IsS81.far ?_ NB400_396.out _) | exact HI400.out))) : g400 ≠ gb407)); have NB407_400 := zA ((by rw [hg]; exact Nat.ne_of_gt (IsS81.lt (show IsS81 w _ g400 t397 t405 t406 from by repeat (first | (with_reducible first | exact HI400.out | apply IsS81.alloc | apply IsS81.drewN | apply IsS81.drew | apply IsS81.set_1 | apply IsS81.set_2 | refine IsS81.far ?_ NB400_396.out _) | exact HI400.out))) : gb407 ≠ g400)); replace HI400 := zA (IsS81.below (by repeat (first | (with_reducible first | exact HI400.out | apply IsS81.alloc | apply IsS81.drewN | apply IsS81.drew | apply IsS81.set_1 | apply IsS81.set_2 | refine IsS81.far ?_ NB400_396.out _) | exact HI400.out)) hb); have := geI GE407; clear hb hbox hg; have hnb12 := NB407_396.out; have hnc12 := NB396_407.out; have hnb13 := NB407_400.out; have hnc13 := NB400_407.out; have hcz14_0 := bc BK407 0; have hcz14_1 := bc BK407 1; have hfz14_0 := bf BK407 0; have hfz14_1 := bf BK407 1; obtain ⟨Ao15, co15, eo15⟩ := Kd.R_slice HO404.out; subst eo15))
 have n0_ : Aside0 (Kd.R (Kd.int .i64) 2 ((w11.setCell ⟨gb407, 0, none⟩ (.int .i64 t401)).setCell ⟨gb407, 1, none⟩ (.slice Ao15 t402.length co15)) w.heap.size (fun _ => True) (.slice Ao15 t402.length co15) t402) := ⟨uR (Kd.R_mono (Kd.R_far (p := ⟨gb407, 1, none⟩) (Kd.R_far (p := ⟨gb407, 0, none⟩) (Kd.R_types HO404.out BK407.out (by decide)) (fun _ hk => hk.2) (.int .i64 t401)) (fun _ hk => hk.2) (.slice Ao15 t402.length co15)) (fun _ hk => trivial))⟩
 have n1_ : Aside0 (((w11.setCell ⟨gb407, 0, none⟩ (.int .i64 t401)).setCell ⟨gb407, 1, none⟩ (.slice Ao15 t402.length co15)).heap[gb396]? = some (.cells #[.int .i64 0, .slice none 0 0] 26 (0, 0))) := ⟨by (repeat refine up1 ?_); refine blk_far ?_ NB396_407.out _; (repeat refine up1 ?_); refine blk_far ?_ NB396_407.out _; (repeat refine up1 ?_); exact BK396.out⟩
 have n2_ : Aside0 (((w11.setCell ⟨gb407, 0, none⟩ (.int .i64 t401)).setCell ⟨gb407, 1, none⟩ (.slice Ao15 t402.length co15)).heap[gb407]? = some (.cells #[.int .i64 t401, .slice Ao15 t402.length co15] 26 (0, 0))) := ⟨by (repeat refine up1 ?_); refine blk_put (cs := #[.int .i64 t401, .slice none 0 0]) ?_ 1 _ rfl; (repeat refine up1 ?_); refine blk_put (cs := #[.int .i64 0, .slice none 0 0]) ?_ 0 _ rfl; (repeat refine up1 ?_); exact BK407.out⟩
 have n3_ : Aside0 (IsS81 w ((w11.setCell ⟨gb407, 0, none⟩ (.int .i64 t401)).setCell ⟨gb407, 1, none⟩ (.slice Ao15 t402.length co15)) g400 t397 t405 t406) := ⟨by repeat (first | (with_reducible first | exact HI400.out | apply IsS81.alloc | apply IsS81.drewN | apply IsS81.drew | apply IsS81.set_1 | apply IsS81.set_2 | refine IsS81.far ?_ NB400_396.out _ | refine IsS81.far ?_ NB400_407.out _) | exact HI400.out)⟩
 have n4_ : Aside0 (Below w.heap.size w ((w11.setCell ⟨gb407, 0, none⟩ (.int .i64 t401)).setCell ⟨gb407, 1, none⟩ (.slice Ao15 t402.length co15))) := ⟨by repeat (first | (with_reducible first | exact HB.out | apply below_alloc | apply pw_below_drewN | apply below_drew1 | refine below_set ?_ (IsS81.ge HI400.out) | refine below_set ?_ GE396.out | refine below_set ?_ GE407.out) | exact HB.out)⟩
 (try clear HO404); (try clear BK396); (try clear BK407); (try clear HI400); (try clear HB)
 generalize ((w11.setCell ⟨gb407, 0, none⟩ (.int .i64 t401)).setCell ⟨gb407, 1, none⟩ (.slice Ao15 t402.length co15)) = w16 at n0_ n1_ n2_ n3_ n4_ ⊢
 have HO404 := n0_
 have BK396 := n1_
 have BK407 := n2_
 have HI400 := n3_
 have HB := n4_
 clear n0_ n1_ n2_ n3_ n4_
 replace HO404 := zA (Kd.R_drew HO404.out)
 replace BK396 := zA (blk_drew BK396.out)
 replace BK407 := zA (blk_drew BK407.out)
 replace HI400 := zA (IsS81.drew HI400.out)
 replace HB := zA (below_drew1 HB.out)
 refine start_ (n := 17) (S := fun w' => w'.cell? ⟨gb407, 0, none⟩ = some (.int .i64 t401) ∧ w'.cell? ⟨gb407, 1, none⟩ = some (.slice Ao15 t402.length co15)) (ds := []) #[false, false, false, false, false, false, false, false, false, false, false, false, false, false, false, false, false] (by kernel_rfl) rfl rfl ⟨bcu BK407 0, bcu BK407 1⟩ (fun hHeld => ?_); refine with_tabW spec_l02With.tab3 spec_l02With.bits3 (fun HT_ HW_ => ?_)
 generalize w16.drew = w17 at HO404 BK396 BK407 HI400 HB hHeld ⊢
 refine pu_ 1 11 (bl 17 2) HT_ ?_
 refine pu_ 2 12 (bl 17 6) HT_ ?_
 refine pu_ 5 15 (bl 17 38) HT_ ?_
 refine pu_ 9 19 (bl 17 550) HT_ ?_
 refine ta_ 0 10 (bl 17 551) HT_ HW_ hHeld ?_
 refine ta_ 3 13 (bl 17 559) HT_ HW_ hHeld ?_
 refine ta_ 6 16 (bl 17 623) HT_ HW_ hHeld ?_
 refine pu_ 7 17 (bl 17 751) HT_ ?_
 refine pu_ 8 18 (bl 17 1007) HT_ ?_
 refine on_ 4 (some 14) (bl 17 1023) HT_ (fun K hK => ?_)
 refine gS Try.func59 #[.int .i64 t401] ?_
 with_reducible refine (spec_l01Fine.calls k t401 t408 _ A4.out).mono ?_
 rintro e w' ⟨rfl, ⟨nd, rfl⟩⟩
 refine ⟨_, rfl, ?_⟩
 refine hK.out _ _ ⟨bcu BK407 0, bcu BK407 1⟩ (fun hHeld => ?_)
 clear hK K
 refine no_ 14 ?_
 refine on_ 10 (some 20) (bl 17 2047) HT_ (fun K hK => ?_)
 refine gS Try.func51 #[.pointer (some ⟨g400, 0, none⟩), .int .i64 16] ?_
 with_reducible refine (spec_l01Next.calls g400 t397 t405 t406 16 t409 t410 t411 w _ ?side1 ?side2 A5.out).mono ?_
 (case side1 => repeat (first | (with_reducible first | exact HI400.out | apply IsS81.alloc | apply IsS81.drewN | apply IsS81.drew | apply IsS81.set_1 | apply IsS81.set_2 | refine IsS81.far ?_ NB400_396.out _ | refine IsS81.far ?_ NB400_407.out _) | exact HI400.out))
 (case side2 => repeat (first | (with_reducible first | exact HB.out | apply below_alloc | apply pw_below_drewN | apply below_drew1 | refine below_set ?_ (IsS81.ge HI400.out) | refine below_set ?_ GE396.out | refine below_set ?_ GE407.out) | exact HB.out))
 rintro e w18 ⟨rfl, hi, hb, hk⟩
 refine ⟨_, rfl, ?_⟩
 replace BK396 := zA (KeepBut.blk hk (g' := gb396) (o := .cells #[.int .i64 0, .slice none 0 0] 26 (0, 0)) (uB BK396.out) NB396_400.out (by simp))
 replace HO404 := zA (Kd.R_mono (Kd.R_keep (IsS81.apart (show IsS81 w _ g400 t397 t405 t406 from by repeat (first | (with_reducible first | exact HI400.out | apply IsS81.alloc | apply IsS81.drewN | apply IsS81.drew | apply IsS81.set_1 | apply IsS81.set_2 | refine IsS81.far ?_ NB400_396.out _ | refine IsS81.far ?_ NB400_407.out _) | exact HI400.out)) (uR HO404.out) (by decide)) hk (fun _ h => h.2)) (fun _ h => h.1))
 replace BK407 := zA (KeepBut.blk hk (g' := gb407) (o := .cells #[.int .i64 t401, .slice Ao15 t402.length co15] 26 (0, 0)) (uB BK407.out) NB407_400.out (by simp))
 replace HB := zA (hb)
 replace HI400 := zA (hi)
 (try clear hb); (try clear hb2); (try clear hk); (try clear hi)
 refine hK.out _ _ ⟨bcu BK407 0, bcu BK407 1⟩ (fun hHeld => ?_)
 clear hK K
 refine no_ 20 ?_
 refine pu_ 11 21 (bl 17 4095) HT_ ?_
 refine pu_ 12 22 (bl 17 8191) HT_ ?_
 refine pu_ 13 23 (bl 17 16383) HT_ ?_
 refine on_ 14 (some 24) (bl 17 32767) HT_ (fun K hK => ?_)
 refine goes_ Try.func58 (by kernel_rfl) rfl #[.pointer (some ⟨g400, 0, none⟩), .int .i64 t408, .int .i64 ji6] (by rfl) rfl rfl (by (try simp only [la, lb, lc]); first | done | (simp only [hji6]; rfl) | rfl | (simp only [ld, le]; rfl)) ?_
 with_reducible refine (spec_l01DrawPoly.calls k g400 t397 t410 t411 t408 ji6 t412 t415 t416 w _ ?side1 ?side2 A7.out).mono ?_
 (case side1 => repeat (first | (with_reducible first | exact HI400.out | apply IsS81.alloc | apply IsS81.drewN | apply IsS81.drew | apply IsS81.set_1 | apply IsS81.set_2 | refine IsS81.far ?_ NB400_396.out _ | refine IsS81.far ?_ NB400_407.out _) | exact HI400.out))
 (case side2 => repeat (first | (with_reducible first | exact HB.out | apply below_alloc | apply pw_below_drewN | apply below_drew1 | refine below_set ?_ (IsS81.ge HI400.out) | refine below_set ?_ GE396.out | refine below_set ?_ GE407.out) | exact HB.out))
 rintro e w19 ⟨v413, rfl, ho0, hi, hb, hk⟩
 refine ⟨_, rfl, ?_⟩
 replace BK396 := zA (KeepBut.blk hk (g' := gb396) (o := .cells #[.int .i64 0, .slice none 0 0] 26 (0, 0)) (uB BK396.out) NB396_400.out (by simp))
 replace BK407 := zA (KeepBut.blk hk (g' := gb407) (o := .cells #[.int .i64 t401, .slice Ao15 t402.length co15] 26 (0, 0)) (uB BK407.out) NB407_400.out (by simp))
 have HO414 := zA (Kd.R_lower (Kd.R_new' ho0 (Kd.R_lt (uR HO404.out))) (below_size (by repeat (first | (with_reducible first | exact HB.out | apply below_alloc | apply pw_below_drewN | apply below_drew1 | refine below_set ?_ (IsS81.ge HI400.out) | refine below_set ?_ GE396.out | refine below_set ?_ GE407.out) | exact HB.out))))
 replace HO404 := zA (Kd.R_mono (Kd.R_told (Kd.R_oldK (IsS81.apart (show IsS81 w _ g400 t397 t410 t411 from by repeat (first | (with_reducible first | exact HI400.out | apply IsS81.alloc | apply IsS81.drewN | apply IsS81.drew | apply IsS81.set_1 | apply IsS81.set_2 | refine IsS81.far ?_ NB400_396.out _ | refine IsS81.far ?_ NB400_407.out _) | exact HI400.out)) (uR HO404.out) (by decide)) hk) (Kd.R_base ho0)) (fun _ h_ => h_.1))
 replace HB := zA (hb)
 replace HI400 := zA (hi)
 (try clear hb); (try clear hb2); (try clear hk); (try clear hi); (try clear ho0)
 refine hK.out _ _ ⟨bcu BK407 0, bcu BK407 1⟩ (fun hHeld => ?_)
 clear hK K
 refine no_ 24 ?_
 refine on_ 15 (none) (bl 17 65535) HT_ (fun K hK => ?_)
 have hs20 : w19.cell? ⟨gb396, 0, none⟩ = some (.int .i64 0) := (blk_cell BK396.out 0).trans rfl
 have hfs20 := bf BK396 0
 have hns20_1 := NB407_396.out; have hms20_1 := NB396_407.out
 have hs21 : w19.cell? ⟨gb396, 1, none⟩ = some (.slice none 0 0) := (blk_cell BK396.out 1).trans rfl
 have hfs21 := bf BK396 1
 have hns21_1 := NB407_396.out; have hms21_1 := NB396_407.out
 refine skip_ (w1 := ?_) (by rfl) rfl ?_ ?_
 rotate_left
 ·go_simp
  rfl
 refine hK.out _ _ ⟨((cell_far (p := ⟨gb396, _, none⟩) NB407_396.out _).trans (((cell_far (p := ⟨gb396, _, none⟩) NB407_396.out _).trans (hHeld.1)))), ((cell_far (p := ⟨gb396, _, none⟩) NB407_396.out _).trans (((cell_far (p := ⟨gb396, _, none⟩) NB407_396.out _).trans (hHeld.2))))⟩ (fun hHeld => ?_)
 clear hK K
 refine pu_ 16 3 (bl 17 131071) HT_ ?_
 refine done_ (done_of HT_.out (by kernel_rfl)) ?_
 try go_wp2
 refine bodyPost_ret (results_ct rfl _ _ gb396 26 #[.int .i64 t401, .slice Ao15 t402.length co15] (0, 0) _ rfl (by (repeat refine up1 ?_); refine blk_put (cs := #[.int .i64 t401, .slice none 0 0]) ?_ 1 _ rfl; (repeat refine up1 ?_); refine blk_put (cs := #[.int .i64 0, .slice none 0 0]) ?_ 0 _ rfl; (repeat refine up1 ?_); exact BK396.out) Try.underlying26 rfl (by kernel_rfl)) rfl ?_
 exact ⟨_, _, by first | rfl | (simp [errW_none, errW_some] <;> rfl) | (simp only [← hji6]; first | rfl | (simp [errW_none, errW_some] <;> rfl)) | (simp [*, errW_none, errW_some] <;> rfl), uR (Kd.R_mono (Kd.R_far (p := ⟨gb396, 1, none⟩) (Kd.R_far (p := ⟨gb396, 0, none⟩) (Kd.R_types HO404.out BK396.out (by decide)) (fun _ hk => hk.2) (.int .i64 t401)) (fun _ hk => hk.2) (.slice Ao15 t402.length co15)) (fun _ hk => hk.1.2)), uR (Kd.R_mono (Kd.R_far (p := ⟨gb396, 1, none⟩) (Kd.R_far (p := ⟨gb396, 0, none⟩) (Kd.R_types HO414.out BK396.out (by decide)) (fun _ hk => hk.2) (.int .i64 t401)) (fun _ hk => hk.2) (.slice Ao15 t402.length co15)) (fun _ hk => hk.1.2)), by repeat (first | (with_reducible first | exact HB.out | apply below_alloc | apply pw_below_drewN | apply below_drew1 | refine below_set ?_ (IsS81.ge HI400.out) | refine below_set ?_ GE396.out | refine below_set ?_ GE407.out) | exact HB.out)⟩
/-! ### spec_DrawApplyFunctional: function 6 -/
def spec_DrawApplyFunctional.f (k : Nat) (l0 : List Int) : Option (Int × List Int × List Int) := (spec_l02With.f k l0).bind fun bt418 => (some (bt418.1, bt418.2.1, bt418.2.2))
set_option maxHeartbeats 8000000 in
set_option maxRecDepth 100000 in
theorem spec_DrawApplyFunctional.calls (k : Nat) (A0 : Option Addr) (c0 : Nat) (l0 : List Int) (r1 : Int) (r2 : List Int) (r3 : List Int) (w : World) (hr0 : Kd.C (Kd.int .u8) w A0 l0.length l0) (hc0 : l0.length ≤ c0) (h : spec_DrawApplyFunctional.f k l0 = some (r1, r2, r3)) :
  Calls Try.prog 6 #[.slice A0 l0.length c0] w fun e w' => ∃ v1_ v2_ : Value, e = .returned (.tuple #[.agg #[.int .i64 r1, v1_], v2_]) ∧ Kd.R (Kd.int .i64) 2 w' w.heap.size (fun k_ => some k_ ≠ (v2_ : Value).ownBlock) v1_ r2 ∧ Kd.R (Kd.int .i64) 2 w' w.heap.size (fun k_ => some k_ ≠ (v1_ : Value).ownBlock) v2_ r3 ∧ Below w.heap.size w w' := by
 have hu26 := Try.underlying26
 have HR0 := zA hr0
 have HC0 := zA hc0
 clear hr0 hc0
 have HB := zA (Below.refl w.heap.size w)
 have H : ((spec_l02With.f k l0).bind fun bt418 => (some (bt418.1, bt418.2.1, bt418.2.2))) = some (r1, r2, r3) := h
 clear h
 replace H := Option.bind_eq_some_iff.mp H
 obtain ⟨⟨t418, t419, t422⟩, A20, H⟩ := H
 replace H : (some (t418, t419, t422)) = some (r1, r2, r3) := H
 have A2 := zA A20
 clear A20
 simp only [Option.some.injEq, Prod.mk.injEq] at H
 obtain ⟨rfl, rfl, rfl⟩ := H
 go_enter Try.func6, Try.ntmps6
 go_wp2_with (first | ((with_reducible refine gate_dst (N := 2) rfl ?_); refine bx 2 #[.int .i64 0, .slice none 0 0] 26 ?_; intro gb417 hg w3 hbox hb; have BK417 := zA (hbox); have GW417 := gq HB hg; have GE417 := gq HB hg; replace HB := xH HB hb; have := geI GE417; clear hb hbox hg) | ((with_reducible refine gate_callee (f := 29) rfl ?_); refine gL (some 5) Try.func29 #[.slice A0 l0.length c0] ?_; (with_reducible refine (spec_l02With.calls k _ _ l0 t418 t419 t422 _ ?side1 ?side2 A2.out).mono ?_); (case side1 => exact uC ((Kd.C_below HR0.out HB.out))); (case side2 => exact HC0.out); rintro e w4 ⟨v420, v423, rfl, ho0, ho1, hb⟩; refine ⟨_, rfl, ?_⟩; have HO421 := zA (Kd.R_lower ho0 (below_size (uH HB.out))); have HO424 := zA (Kd.R_lower ho1 (below_size (uH HB.out))); replace BK417 := xB BK417 hb; replace HB := xH HB hb; (try clear hb); (try clear hb2); (try clear hk); (try clear hi); (try clear ho0); (try clear ho1); have hcz5_0 := bc BK417 0; have hcz5_1 := bc BK417 1; have hfz5_0 := bf BK417 0; have hfz5_1 := bf BK417 1; obtain ⟨Ao6, co6, eo6⟩ := Kd.R_slice HO421.out; subst eo6))
 refine bodyPost_ret (results_ct rfl _ _ gb417 26 #[.int .i64 t418, .slice Ao6 t419.length co6] (0, 0) _ rfl (by (repeat refine up1 ?_); refine blk_put (cs := #[.int .i64 t418, .slice none 0 0]) ?_ 1 _ rfl; (repeat refine up1 ?_); refine blk_put (cs := #[.int .i64 0, .slice none 0 0]) ?_ 0 _ rfl; (repeat refine up1 ?_); exact BK417.out) Try.underlying26 rfl (by kernel_rfl)) rfl ?_
 exact ⟨_, _, by first | rfl | (simp [errW_none, errW_some] <;> rfl) | (simp [*, errW_none, errW_some] <;> rfl), uR (rf2 HO421 BK417 (by decide) (.int .i64 t418) (.slice Ao6 t419.length co6)), uR (rf2 HO424 BK417 (by decide) (.int .i64 t418) (.slice Ao6 t419.length co6)), uH HB.out⟩
/-! ### spec_DrawProductMoments: function 11 -/
def spec_DrawProductMoments.f (k : Nat) (l0 : List Int) : Option (Int × List Int × List Int) := (spec_l02With.f k l0).bind fun bt489 => (some (bt489.1, bt489.2.1, bt489.2.2))
set_option maxHeartbeats 8000000 in
set_option maxRecDepth 100000 in
theorem spec_DrawProductMoments.calls (k : Nat) (A0 : Option Addr) (c0 : Nat) (l0 : List Int) (r1 : Int) (r2 : List Int) (r3 : List Int) (w : World) (hr0 : Kd.C (Kd.int .u8) w A0 l0.length l0) (hc0 : l0.length ≤ c0) (h : spec_DrawProductMoments.f k l0 = some (r1, r2, r3)) :
  Calls Try.prog 11 #[.slice A0 l0.length c0] w fun e w' => ∃ v1_ v2_ : Value, e = .returned (.tuple #[.agg #[.int .i64 r1, v1_], v2_]) ∧ Kd.R (Kd.int .i64) 2 w' w.heap.size (fun k_ => some k_ ≠ (v2_ : Value).ownBlock) v1_ r2 ∧ Kd.R (Kd.int .i64) 2 w' w.heap.size (fun k_ => some k_ ≠ (v1_ : Value).ownBlock) v2_ r3 ∧ Below w.heap.size w w' := by
 have hu26 := Try.underlying26
 have HR0 := zA hr0
 have HC0 := zA hc0
 clear hr0 hc0
 have HB := zA (Below.refl w.heap.size w)
 have H : ((spec_l02With.f k l0).bind fun bt489 => (some (bt489.1, bt489.2.1, bt489.2.2))) = some (r1, r2, r3) := h
 clear h
 replace H := Option.bind_eq_some_iff.mp H
 obtain ⟨⟨t489, t490, t493⟩, A20, H⟩ := H
 replace H : (some (t489, t490, t493)) = some (r1, r2, r3) := H
 have A2 := zA A20
 clear A20
 simp only [Option.some.injEq, Prod.mk.injEq] at H
 obtain ⟨rfl, rfl, rfl⟩ := H
 go_enter Try.func11, Try.ntmps11
 go_wp2_with (first | ((with_reducible refine gate_dst (N := 2) rfl ?_); refine bx 2 #[.int .i64 0, .slice none 0 0] 26 ?_; intro gb488 hg w3 hbox hb; have BK488 := zA (hbox); have GW488 := gq HB hg; have GE488 := gq HB hg; replace HB := xH HB hb; have := geI GE488; clear hb hbox hg) | ((with_reducible refine gate_callee (f := 29) rfl ?_); refine gL (some 5) Try.func29 #[.slice A0 l0.length c0] ?_; (with_reducible refine (spec_l02With.calls k _ _ l0 t489 t490 t493 _ ?side1 ?side2 A2.out).mono ?_); (case side1 => exact uC ((Kd.C_below HR0.out HB.out))); (case side2 => exact HC0.out); rintro e w4 ⟨v491, v494, rfl, ho0, ho1, hb⟩; refine ⟨_, rfl, ?_⟩; have HO492 := zA (Kd.R_lower ho0 (below_size (uH HB.out))); have HO495 := zA (Kd.R_lower ho1 (below_size (uH HB.out))); replace BK488 := xB BK488 hb; replace HB := xH HB hb; (try clear hb); (try clear hb2); (try clear hk); (try clear hi); (try clear ho0); (try clear ho1); have hcz5_0 := bc BK488 0; have hcz5_1 := bc BK488 1; have hfz5_0 := bf BK488 0; have hfz5_1 := bf BK488 1; obtain ⟨Ao6, co6, eo6⟩ := Kd.R_slice HO492.out; subst eo6))
 refine bodyPost_ret (results_ct rfl _ _ gb488 26 #[.int .i64 t489, .slice Ao6 t490.length co6] (0, 0) _ rfl (by (repeat refine up1 ?_); refine blk_put (cs := #[.int .i64 t489, .slice none 0 0]) ?_ 1 _ rfl; (repeat refine up1 ?_); refine blk_put (cs := #[.int .i64 0, .slice none 0 0]) ?_ 0 _ rfl; (repeat refine up1 ?_); exact BK488.out) Try.underlying26 rfl (by kernel_rfl)) rfl ?_
 exact ⟨_, _, by first | rfl | (simp [errW_none, errW_some] <;> rfl) | (simp [*, errW_none, errW_some] <;> rfl), uR (rf2 HO492 BK488 (by decide) (.int .i64 t489) (.slice Ao6 t490.length co6)), uR (rf2 HO495 BK488 (by decide) (.int .i64 t489) (.slice Ao6 t490.length co6)), uH HB.out⟩
end Go.Proofs.Ytnpepkpogohcmaa.Pr
