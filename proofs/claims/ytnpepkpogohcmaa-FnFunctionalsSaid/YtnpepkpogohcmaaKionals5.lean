/- Texts of this session in one: what functions of the program compute, and plain facts of it, under the conditions that each theorem names. -/
import Derived.Test.YtnpepkpogohcmaaKionals1
import Derived.Test.YtnpepkpogohcmaaKionals2
import Derived.Test.YtnpepkpogohcmaaKionals3
import Derived.Test.YtnpepkpogohcmaaKionals4
namespace Go.Proofs.Ytnpepkpogohcmaa.Pr
open Go.RowKit Go.Proofs.YtnpepkpogohcmaaW.PrintWords Go.Proofs.YtnpepkpogohcmaaW.PrintLast Go.Proofs.YtnpepkpogohcmaaW.PrintMore
attribute [local go_sem] max2_int min2_int max_two min_two max_three min_three max_four min_four   -- for this text's walks alone
set_option linter.unusedVariables false
set_option linter.unusedSimpArgs false
/-! ### spec_l02DrawNodes: function 106 -/
mutual
def spec_l02DrawNodes.l0 : Nat → Int → List Int → Int → List Int → Int → Int → Option (List Int × Int × Int)
 | 0, _, _, _, _, _, _ => none
 | k + 1, x1, x7, x8, x1000, x1001, x1002 => if x8 > 0 then ((spec_l01Next.f x1000 x1001 x1002 x1).bind fun bt147 => ((spec_l01Next.f x1000 bt147.2.1 bt147.2.2 (mn x1 9)).bind fun bt150 => ((spec_l01Pick.f x1000 bt150.2.1 bt150.2.2 (([bt147.1, bt150.1] : List Int))).bind fun bt156 => (spec_l02DrawNodes.l1 k x1 x7 x8 bt156.1 false 0 x1000 bt156.2.1 bt156.2.2)))) else (some (x7, x1001, x1002))
def spec_l02DrawNodes.l1 : Nat → Int → List Int → Int → Int → Bool → Int → List Int → Int → Int → Option (List Int × Int × Int)
 | 0, _, _, _, _, _, _, _, _, _ => none
 | k + 1, x1, x7, x8, x9, x10, x11, x1000, x1001, x1002 => if x11 < (x7.length : Int) then (if x10 = true then (spec_l02DrawNodes.l1 k x1 x7 x8 x9 true (wrap64 (x11 + 1)) x1000 x1001 x1002) else (if 0 ≤ x11 then (spec_l02DrawNodes.l1 k x1 x7 x8 x9 ((rd x7 x11) == x9) (wrap64 (x11 + 1)) x1000 x1001 x1002) else (none))) else (if x10 = true then (spec_l02DrawNodes.l0 k x1 x7 (wrap64 (x8 - 1)) x1000 x1001 x1002) else (if x7.length < 17592186044416 then (spec_l02DrawNodes.l0 k x1 (x7 ++ [x9]) (wrap64 (x8 - 1)) x1000 x1001 x1002) else (none)))
end
def spec_l02DrawNodes.f (k : Nat) (s0_0 : List Int) (s0_1 : Int) (s0_2 : Int) (a1 : Int) (a2 : Int) : Option (List Int × Int × Int) := (spec_l01Next.f s0_0 s0_1 s0_2 (wrap64 (a2 + 1))).bind fun bt144 => (spec_l02DrawNodes.l0 k a1 (([] : List Int)) bt144.1 s0_0 bt144.2.1 bt144.2.2)
set_option maxHeartbeats 8000000 in
set_option maxRecDepth 100000 in
theorem spec_l02DrawNodes.calls (k : Nat) (g : Nat) (s0_0 : List Int) (s0_1 : Int) (s0_2 : Int) (a1 : Int) (a2 : Int) (r1 : List Int) (r2 : Int) (r3 : Int) (w0 w : World) (hI : IsS81 w0 w g s0_0 s0_1 s0_2) (hB : Below w0.heap.size w0 w) (h : spec_l02DrawNodes.f k s0_0 s0_1 s0_2 a1 a2 = some (r1, r2, r3)) :
  Calls Try.prog 106 #[.pointer (some ⟨g, 0, none⟩), .int .i64 a1, .int .i64 a2] w fun e w' => ∃ v0_ : Value, e = .returned (v0_) ∧ Kd.R (Kd.int .i64) 2 w' w.heap.size (fun _ => True) v0_ r1 ∧ IsS81 w0 w' g s0_0 r2 r3 ∧ Below w0.heap.size w0 w' ∧ KeepBut w w' g none := by
 have HI0 := zA hI
 have HK := zA (KeepBut.refl w g none)
 have HL := zA hB.size
 clear hI
 have HW0 := zA hB.size
 have HB := zA hB
 clear hB
 have H : ((spec_l01Next.f s0_0 s0_1 s0_2 (wrap64 (a2 + 1))).bind fun bt144 => (spec_l02DrawNodes.l0 k a1 (([] : List Int)) bt144.1 s0_0 bt144.2.1 bt144.2.2)) = some (r1, r2, r3) := h
 clear h
 obtain ⟨y141, hy141⟩ : ∃ y_ : List Int, y_ = (([] : List Int)) := ⟨_, rfl⟩
 replace H : ((spec_l01Next.f s0_0 s0_1 s0_2 (wrap64 (a2 + 1))).bind fun bt144 => (spec_l02DrawNodes.l0 k a1 y141 bt144.1 s0_0 bt144.2.1 bt144.2.2)) = some (r1, r2, r3) := by first | (rw [hy141]; exact H) | exact H
 have Ny141 := zA hy141
 clear hy141
 replace H := Option.bind_eq_some_iff.mp H
 obtain ⟨⟨t144, t145, t146⟩, A40, H⟩ := H
 replace H : (spec_l02DrawNodes.l0 k a1 y141 t144 s0_0 t145 t146) = some (r1, r2, r3) := H
 have A4 := zA A40
 clear A40
 have H' := zA H
 clear H
 go_enter Try.func106, Try.ntmps106
 go_wp2_with (first | ((with_reducible refine gate_dst (N := 12) rfl ?_); refine Kd.R_lit (Kd.int .i64) _ 2 ?hg (N := 12) ?hd (xs := ([] : List Int)) (inner := []) (ok := fun _ => True) (okp := fun _ => True) ?hr ?hp (fun _ hk => hk) trivial (Below.refl _ _) (Nat.le_refl _) (by simp) ?_; (case hd => rfl); (case hg => rfl); (case hr => first | (go_simp; done) | (go_simp; rfl)); (case hp => exact (Reps.none _ _)); intro v142 w5 ho6 hb hg_ hnew_; clear hg_ hnew_; (first | rw [← Ny141.out] at ho6 | (simp only [Int.reduceToNat] at ho6; rw [← Ny141.out] at ho6)); have HO143 := zA (Kd.R_lower ho6 (keep_size (w := w) (g := g) (row := none) (by repeat (first | (with_reducible first | exact HK.out | apply KeepBut.set_ | apply keep_drewN | apply keep_drew | apply keep_alloc) | exact HK.out)))); replace HK := zA (KeepBut.trans (by repeat (first | (with_reducible first | exact HK.out | apply KeepBut.set_ | apply keep_drewN | apply keep_drew | apply keep_alloc) | exact HK.out)) (KeepBut.of_below hb g none) (.inl rfl)); replace HB := zA (below_step (by repeat (first | (with_reducible first | exact HB.out | apply below_alloc | apply pw_below_drewN | apply below_drew1 | refine below_set ?_ (IsS81.ge HI0.out)) | exact HB.out)) hb); replace HI0 := zA (IsS81.below (by repeat (first | (with_reducible first | exact HI0.out | apply IsS81.alloc | apply IsS81.drewN | apply IsS81.drew | apply IsS81.set_1 | apply IsS81.set_2) | exact HI0.out)) hb); clear hb ho6) | ((with_reducible refine gate_callee (f := 51) rfl ?_); refine gL (some 16) Try.func51 #[.pointer (some ⟨g, 0, none⟩), .int .i64 (wrap64 (a2 + 1))] ?_; (with_reducible refine (spec_l01Next.calls g s0_0 s0_1 s0_2 (wrap64 (a2 + 1)) t144 t145 t146 w0 _ ?side1 ?side2 A4.out).mono ?_); (case side1 => repeat (first | (with_reducible first | exact HI0.out | apply IsS81.alloc | apply IsS81.drewN | apply IsS81.drew | apply IsS81.set_1 | apply IsS81.set_2) | exact HI0.out)); (case side2 => repeat (first | (with_reducible first | exact HB.out | apply below_alloc | apply pw_below_drewN | apply below_drew1 | refine below_set ?_ (IsS81.ge HI0.out)) | exact HB.out)); rintro e w7 ⟨rfl, hi, hb, hk⟩; refine ⟨_, rfl, ?_⟩; replace HO143 := zA (Kd.R_mono (Kd.R_keep (IsS81.apart (show IsS81 w0 _ g s0_0 s0_1 s0_2 from by repeat (first | (with_reducible first | exact HI0.out | apply IsS81.alloc | apply IsS81.drewN | apply IsS81.drew | apply IsS81.set_1 | apply IsS81.set_2) | exact HI0.out)) (uR HO143.out) (by decide)) hk (fun _ h => h.2)) (fun _ h => h.1)); replace HK := zA (KeepBut.trans (by repeat (first | (with_reducible first | exact HK.out | apply KeepBut.set_ | apply keep_drewN | apply keep_drew | apply keep_alloc) | exact HK.out)) hk (.inl rfl)); replace HB := zA (hb); replace HI0 := zA (hi); (try clear hb); (try clear hb2); (try clear hk); (try clear hi)))
 go_loopg [7, 8] k (fun kq v7 v8 w' => ∃ (x7_1 : List Int) (x8_1 : Int) (x1001_1 : Int) (x1002_1 : Int), v8 = .int .i64 x8_1 ∧ Aside0 (spec_l02DrawNodes.l0 kq a1 x7_1 x8_1 s0_0 x1001_1 x1002_1 = some (r1, r2, r3)) ∧ Aside0 (kq ≤ k) ∧ Aside0 (Kd.R (Kd.int .i64) 2 w' w.heap.size (fun _ => True) v7 x7_1) ∧ Aside0 (IsS81 w0 w' g s0_0 x1001_1 x1002_1) ∧ Aside0 (KeepBut w w' g none) ∧ Aside0 (Below w0.heap.size w0 w'))
 case atStart => exact ⟨(y141), (t144), (t145), (t146), (by first | rfl | (simp; done) | (simp [*]; done)), H', ⟨Nat.le_refl _⟩, ⟨uR HO143.out⟩, ⟨by repeat (first | (with_reducible first | exact HI0.out | apply IsS81.alloc | apply IsS81.drewN | apply IsS81.drew | apply IsS81.set_1 | apply IsS81.set_2) | exact HI0.out)⟩, ⟨by repeat (first | (with_reducible first | exact HK.out | apply KeepBut.set_ | apply keep_drewN | apply keep_drew | apply keep_alloc) | exact HK.out)⟩, ⟨by repeat (first | (with_reducible first | exact HB.out | apply below_alloc | apply pw_below_drewN | apply below_drew1 | refine below_set ?_ (IsS81.ge HI0.out)) | exact HB.out)⟩⟩
 case round =>
  clear H'
  (try clear c1);(try clear p2);(try clear c5);(try clear p6)
  obtain ⟨x7_1, x8_1, x1001_1, x1002_1, rfl, HA, HK1, HO_7, HI0, HK, HB⟩ := hrel
  cases gk with
  | zero => exact absurd HA.out (by simp [spec_l02DrawNodes.l0])
  | succ k1 =>
   have H := HA.out
   clear HA
   simp only [spec_l02DrawNodes.l0] at H
   by_cases c8 : x8_1 > 0
   rotate_left
   ·rw [if_neg c8] at H
    have c8b0 : decide (0 < x8_1) = false := decide_eq_false c8
    clear c8
    simp only [Option.some.injEq, Prod.mk.injEq] at H
    obtain ⟨rfl, rfl, rfl⟩ := H
    go_wp2
    go_ret
    exact ⟨_, by first | rfl | (simp [errW_none, errW_some] <;> rfl) | (simp [*, errW_none, errW_some] <;> rfl), uR HO_7.out, by repeat (first | (with_reducible first | exact HI0.out | apply IsS81.alloc | apply IsS81.drewN | apply IsS81.drew | apply IsS81.set_1 | apply IsS81.set_2) | exact HI0.out), by repeat (first | (with_reducible first | exact HB.out | apply below_alloc | apply pw_below_drewN | apply below_drew1 | refine below_set ?_ (IsS81.ge HI0.out)) | exact HB.out), by repeat (first | (with_reducible first | exact HK.out | apply KeepBut.set_ | apply keep_drewN | apply keep_drew | apply keep_alloc) | exact HK.out)⟩

   rw [if_pos c8] at H
   have c8b0 : decide (0 < x8_1) = true := decide_eq_true c8
   clear c8
   replace H := Option.bind_eq_some_iff.mp H
   obtain ⟨⟨t147, t148, t149⟩, A90, H⟩ := H
   replace H : ((spec_l01Next.f s0_0 t148 t149 (mn a1 9)).bind fun bt150 => ((spec_l01Pick.f s0_0 bt150.2.1 bt150.2.2 (([t147, bt150.1] : List Int))).bind fun bt156 => (spec_l02DrawNodes.l1 k1 a1 x7_1 x8_1 bt156.1 false 0 s0_0 bt156.2.1 bt156.2.2))) = some (r1, r2, r3) := H
   have A9 := zA A90
   clear A90
   obtain ⟨ji10, hji10⟩ : ∃ j_ : Int, (mn a1 9) = j_ := ⟨_, rfl⟩
   replace H : ((spec_l01Next.f s0_0 t148 t149 (ji10)).bind fun bt150 => ((spec_l01Pick.f s0_0 bt150.2.1 bt150.2.2 (([t147, bt150.1] : List Int))).bind fun bt156 => (spec_l02DrawNodes.l1 k1 a1 x7_1 x8_1 bt156.1 false 0 s0_0 bt156.2.1 bt156.2.2))) = some (r1, r2, r3) := by first | (rw [hji10] at H; exact H) | (simp only [hji10] at H ⊢; exact H)
   (try rw [hji10] at A9)
   have hji10_ : (if 9 < a1 then 9 else a1) = ji10 := hji10
   replace H := Option.bind_eq_some_iff.mp H
   obtain ⟨⟨t150, t151, t152⟩, A110, H⟩ := H
   replace H : ((spec_l01Pick.f s0_0 t151 t152 (([t147, t150] : List Int))).bind fun bt156 => (spec_l02DrawNodes.l1 k1 a1 x7_1 x8_1 bt156.1 false 0 s0_0 bt156.2.1 bt156.2.2)) = some (r1, r2, r3) := H
   have A11 := zA A110
   clear A110
   obtain ⟨y153, hy153⟩ : ∃ y_ : List Int, y_ = (([t147, t150] : List Int)) := ⟨_, rfl⟩
   replace H : ((spec_l01Pick.f s0_0 t151 t152 y153).bind fun bt156 => (spec_l02DrawNodes.l1 k1 a1 x7_1 x8_1 bt156.1 false 0 s0_0 bt156.2.1 bt156.2.2)) = some (r1, r2, r3) := by first | (rw [hy153]; exact H) | exact H
   have Ny153 := zA hy153
   clear hy153
   replace H := Option.bind_eq_some_iff.mp H
   obtain ⟨⟨t156, t157, t158⟩, A120, H⟩ := H
   replace H : (spec_l02DrawNodes.l1 k1 a1 x7_1 x8_1 t156 false 0 s0_0 t157 t158) = some (r1, r2, r3) := H
   have A12 := zA A120
   clear A120
   have H' := zA H
   clear H
   go_wp2_with (first | ((with_reducible refine gate_callee (f := 51) rfl ?_); refine gL (some 24) Try.func51 #[.pointer (some ⟨g, 0, none⟩), .int .i64 a1] ?_; (with_reducible refine (spec_l01Next.calls g s0_0 x1001_1 x1002_1 a1 t147 t148 t149 w0 _ ?side1 ?side2 A9.out).mono ?_); (case side1 => repeat (first | (with_reducible first | exact HI0.out | apply IsS81.alloc | apply IsS81.drewN | apply IsS81.drew | apply IsS81.set_1 | apply IsS81.set_2) | exact HI0.out)); (case side2 => repeat (first | (with_reducible first | exact HB.out | apply below_alloc | apply pw_below_drewN | apply below_drew1 | refine below_set ?_ (IsS81.ge HI0.out)) | exact HB.out)); rintro e w13 ⟨rfl, hi, hb, hk⟩; refine ⟨_, rfl, ?_⟩; replace HO_7 := zA (Kd.R_mono (Kd.R_keep (IsS81.apart (show IsS81 w0 _ g s0_0 x1001_1 x1002_1 from by repeat (first | (with_reducible first | exact HI0.out | apply IsS81.alloc | apply IsS81.drewN | apply IsS81.drew | apply IsS81.set_1 | apply IsS81.set_2) | exact HI0.out)) (uR HO_7.out) (by decide)) hk (fun _ h => h.2)) (fun _ h => h.1)); replace HK := zA (KeepBut.trans (by repeat (first | (with_reducible first | exact HK.out | apply KeepBut.set_ | apply keep_drewN | apply keep_drew | apply keep_alloc) | exact HK.out)) hk (.inl rfl)); replace HB := zA (hb); replace HI0 := zA (hi); (try clear hb); (try clear hb2); (try clear hk); (try clear hi)) | ((with_reducible refine gate_callee (f := 51) rfl ?_); refine goesL_ (some 28) rfl rfl Try.func51 (by kernel_rfl) rfl #[.pointer (some ⟨g, 0, none⟩), .int .i64 ji10] rfl (by (try simp only [la, lb, lc]); first | done | (simp only [hji10]; rfl) | rfl | (simp only [ld, le]; rfl)) ?_; (with_reducible refine (spec_l01Next.calls g s0_0 t148 t149 ji10 t150 t151 t152 w0 _ ?side1 ?side2 A11.out).mono ?_); (case side1 => repeat (first | (with_reducible first | exact HI0.out | apply IsS81.alloc | apply IsS81.drewN | apply IsS81.drew | apply IsS81.set_1 | apply IsS81.set_2) | exact HI0.out)); (case side2 => repeat (first | (with_reducible first | exact HB.out | apply below_alloc | apply pw_below_drewN | apply below_drew1 | refine below_set ?_ (IsS81.ge HI0.out)) | exact HB.out)); rintro e w14 ⟨rfl, hi, hb, hk⟩; refine ⟨_, rfl, ?_⟩; replace HO_7 := zA (Kd.R_mono (Kd.R_keep (IsS81.apart (show IsS81 w0 _ g s0_0 t148 t149 from by repeat (first | (with_reducible first | exact HI0.out | apply IsS81.alloc | apply IsS81.drewN | apply IsS81.drew | apply IsS81.set_1 | apply IsS81.set_2) | exact HI0.out)) (uR HO_7.out) (by decide)) hk (fun _ h => h.2)) (fun _ h => h.1)); replace HK := zA (KeepBut.trans (by repeat (first | (with_reducible first | exact HK.out | apply KeepBut.set_ | apply keep_drewN | apply keep_drew | apply keep_alloc) | exact HK.out)) hk (.inl rfl)); replace HB := zA (hb); replace HI0 := zA (hi); (try clear hb); (try clear hb2); (try clear hk); (try clear hi)) | ((with_reducible refine gate_dst (N := 29) rfl ?_); refine Kd.R_lit (Kd.int .i64) _ 2 ?hg (N := 29) ?hd (xs := ([t147, t150] : List Int)) (inner := [.int .i64 t147, .int .i64 t150]) (ok := fun _ => True) (okp := fun _ => True) ?hr ?hp (fun _ hk => hk) trivial (Below.refl _ _) (Nat.le_refl _) (by simp) ?_; (case hd => rfl); (case hg => rfl); (case hr => first | (go_simp; done) | (go_simp; rfl)); (case hp => exact (Reps.one (show Kd.M (Kd.int .i64) _ _ _ t147 [.int .i64 t147] from rfl) (Reps.one (show Kd.M (Kd.int .i64) _ _ _ t150 [.int .i64 t150] from rfl) (Reps.none _ _)))); intro v154 w15 ho16 hb hg_ hnew_; clear hg_ hnew_; (first | rw [← Ny153.out] at ho16 | (simp only [Int.reduceToNat] at ho16; rw [← Ny153.out] at ho16)); have HO155 := zA (Kd.R_lower (Kd.R_new' ho16 (Kd.R_lt (uR HO_7.out))) (keep_size (w := w) (g := g) (row := none) (by repeat (first | (with_reducible first | exact HK.out | apply KeepBut.set_ | apply keep_drewN | apply keep_drew | apply keep_alloc) | exact HK.out)))); replace HO_7 := zA (Kd.R_elder' (uR HO_7.out) (Kd.R_base ho16) hb); replace HK := zA (KeepBut.trans (by repeat (first | (with_reducible first | exact HK.out | apply KeepBut.set_ | apply keep_drewN | apply keep_drew | apply keep_alloc) | exact HK.out)) (KeepBut.of_below hb g none) (.inl rfl)); replace HB := zA (below_step (by repeat (first | (with_reducible first | exact HB.out | apply below_alloc | apply pw_below_drewN | apply below_drew1 | refine below_set ?_ (IsS81.ge HI0.out)) | exact HB.out)) hb); replace HI0 := zA (IsS81.below (by repeat (first | (with_reducible first | exact HI0.out | apply IsS81.alloc | apply IsS81.drewN | apply IsS81.drew | apply IsS81.set_1 | apply IsS81.set_2) | exact HI0.out)) hb); clear hb ho16; obtain ⟨Ao17, co17, eo17⟩ := Kd.R_slice HO155.out; subst eo17) | ((with_reducible refine gate_callee (f := 94) rfl ?_); refine gL (some 30) Try.func94 #[.pointer (some ⟨g, 0, none⟩), .slice Ao17 y153.length co17] ?_; (with_reducible refine (spec_l01Pick.calls g s0_0 t151 t152 _ _ y153 t156 t157 t158 w0 _ ?side1 ?side2 ?side3 ?side4 ?side5 A12.out).mono ?_); (case side1 => repeat (first | (with_reducible first | exact HI0.out | apply IsS81.alloc | apply IsS81.drewN | apply IsS81.drew | apply IsS81.set_1 | apply IsS81.set_2) | exact HI0.out)); (case side2 => repeat (first | (with_reducible first | exact HB.out | apply below_alloc | apply pw_below_drewN | apply below_drew1 | refine below_set ?_ (IsS81.ge HI0.out)) | exact HB.out)); (case side3 => exact uC ((Kd.R_reads' HO155.out).2.2)); (case side4 => exact (Kd.R_reads' HO155.out).2.1); (case side5 => exact far_slice (IsS81.own_ne HI0.out HO155.out (by decide))); rintro e w18 ⟨rfl, hi, hb, hk⟩; refine ⟨_, rfl, ?_⟩; replace HO_7 := zA (Kd.R_mono (Kd.R_keep (IsS81.apart (show IsS81 w0 _ g s0_0 t151 t152 from by repeat (first | (with_reducible first | exact HI0.out | apply IsS81.alloc | apply IsS81.drewN | apply IsS81.drew | apply IsS81.set_1 | apply IsS81.set_2) | exact HI0.out)) (uR HO_7.out) (by decide)) hk (fun _ h => h.2)) (fun _ h => h.1)); replace HO155 := zA (Kd.R_mono (Kd.R_keep (IsS81.apart (show IsS81 w0 _ g s0_0 t151 t152 from by repeat (first | (with_reducible first | exact HI0.out | apply IsS81.alloc | apply IsS81.drewN | apply IsS81.drew | apply IsS81.set_1 | apply IsS81.set_2) | exact HI0.out)) (uR HO155.out) (by decide)) hk (fun _ h => h.2)) (fun _ h => h.1)); replace HK := zA (KeepBut.trans (by repeat (first | (with_reducible first | exact HK.out | apply KeepBut.set_ | apply keep_drewN | apply keep_drew | apply keep_alloc) | exact HK.out)) hk (.inl rfl)); replace HB := zA (hb); replace HI0 := zA (hi); (try clear hb); (try clear hb2); (try clear hk); (try clear hi)))
   go_loopg [10, 11] k1 (fun kq v10 v11 w' => ∃ (x10_2 : Bool) (x11_2 : Int), v10 = .bool x10_2 ∧ v11 = .int .i64 x11_2 ∧ Aside0 (spec_l02DrawNodes.l1 kq a1 x7_1 x8_1 t156 x10_2 x11_2 s0_0 t157 t158 = some (r1, r2, r3)) ∧ Aside0 (kq ≤ k1) ∧ Aside0 (Kd.R (Kd.int .i64) 2 w' w.heap.size (fun _ => True) u7 x7_1) ∧ Aside0 (IsS81 w0 w' g s0_0 t157 t158) ∧ Aside0 (KeepBut w w' g none) ∧ Aside0 (Below w0.heap.size w0 w'))
   case atStart => exact ⟨(false), (0), (by first | rfl | (simp; done) | (simp [*]; done)), (by first | rfl | (simp; done) | (simp [*]; done)), H', ⟨Nat.le_refl _⟩, ⟨uR (Kd.R_mono HO_7.out (fun _ hk => trivial))⟩, ⟨by repeat (first | (with_reducible first | exact HI0.out | apply IsS81.alloc | apply IsS81.drewN | apply IsS81.drew | apply IsS81.set_1 | apply IsS81.set_2) | exact HI0.out)⟩, ⟨by repeat (first | (with_reducible first | exact HK.out | apply KeepBut.set_ | apply keep_drewN | apply keep_drew | apply keep_alloc) | exact HK.out)⟩, ⟨by repeat (first | (with_reducible first | exact HB.out | apply below_alloc | apply pw_below_drewN | apply below_drew1 | refine below_set ?_ (IsS81.ge HI0.out)) | exact HB.out)⟩⟩
   case round =>
    clear H'
    (try clear c1);(try clear p2);(try clear c5);(try clear p6);(try clear c8);(try clear c8b0);(try clear c9);(try clear c10);(try clear p2);(try clear p6)
    obtain ⟨x10_2, x11_2, rfl, rfl, HA, HK2, HO_7, HI0, HK, HB⟩ := hrel
    cases gk with
    | zero => exact absurd HA.out (by simp [spec_l02DrawNodes.l1])
    | succ k2 =>
     have H := HA.out
     clear HA
     simp only [spec_l02DrawNodes.l1] at H
     by_cases c19 : x11_2 < (x7_1.length : Int)
     rotate_left
     ·rw [if_neg c19] at H
      have c19b0 : decide (x11_2 < (x7_1.length : Int)) = false := decide_eq_false c19
      clear c19
      by_cases c24 : x10_2 = true
      ·subst c24
       have H1 : (spec_l02DrawNodes.l0 k2 a1 x7_1 (wrap64 (x8_1 - 1)) s0_0 t157 t158) = some (r1, r2, r3) := by rw [if_pos rfl] at H; exact H
       clear H
       have H := H1
       clear H1
       have H' := zA H
       clear H
       obtain ⟨Ao25, co25, eo25⟩ := Kd.R_slice HO_7.out
       subst eo25
       go_wp2
       go_roundg k2
       case measure => have := HK1.out; have := HK2.out; omega
       case rel => exact ⟨(x7_1), (wrap64 (x8_1 - 1)), (t157), (t158), (by first | rfl | (simp; done) | (simp [*]; done)), H', ⟨by have := HK1.out; have := HK2.out; omega⟩, ⟨uR HO_7.out⟩, ⟨by repeat (first | (with_reducible first | exact HI0.out | apply IsS81.alloc | apply IsS81.drewN | apply IsS81.drew | apply IsS81.set_1 | apply IsS81.set_2) | exact HI0.out)⟩, ⟨by repeat (first | (with_reducible first | exact HK.out | apply KeepBut.set_ | apply keep_drewN | apply keep_drew | apply keep_alloc) | exact HK.out)⟩, ⟨by repeat (first | (with_reducible first | exact HB.out | apply below_alloc | apply pw_below_drewN | apply below_drew1 | refine below_set ?_ (IsS81.ge HI0.out)) | exact HB.out)⟩⟩
      ·replace c24 := Bool.eq_false_iff.mpr c24
       subst c24
       have H1 : (if x7_1.length < 17592186044416 then (spec_l02DrawNodes.l0 k2 a1 (x7_1 ++ [t156]) (wrap64 (x8_1 - 1)) s0_0 t157 t158) else (none)) = some (r1, r2, r3) := by rw [if_neg (show ¬ (false = true) by decide)] at H; exact H
       clear H
       have H := H1
       clear H1
       by_cases c26 : x7_1.length < 17592186044416
       rotate_left
       ·rw [if_neg c26] at H
        exact absurd H (by simp)
       rw [if_pos c26] at H
       have LMc26 := zA c26
       clear c26
       obtain ⟨y160, hy160⟩ : ∃ y_ : List Int, y_ = (x7_1 ++ [t156]) := ⟨_, rfl⟩
       replace H : (spec_l02DrawNodes.l0 k2 a1 y160 (wrap64 (x8_1 - 1)) s0_0 t157 t158) = some (r1, r2, r3) := by first | (rw [hy160]; exact H) | exact H
       have Ny160 := zA hy160
       clear hy160
       have H' := zA H
       clear H
       obtain ⟨Ao27, co27, eo27⟩ := Kd.R_slice HO_7.out
       subst eo27
       go_wp2_with (first | ((with_reducible refine gate_builtin (b := .append) (xs := #[.tmp 48, .tmp 50]) rfl ?_); at_builtin; refine Kd.R_append (Kd.int .i64) w.heap.size rfl (.tmp 48) (.tmp 50) 24 2 (.int .i64 0) 8 rfl Try.underlying24 info2 rfl (by decide) (by omega) (.slice Ao27 x7_1.length co27) x7_1 t156 [.int .i64 t156] (fun _ => True) (fun _ => False) rfl rfl ?aP (fun _ hk => hk.elim) ?aF ?aO (Below.refl _ _) ?aS ?aL ?_; (case aP => exact rfl); (case aF => exact (fun _ _ => trivial)); (case aO => exact (uR HO_7.out)); (case aS => exact (keep_size (w := w) (g := g) (row := none) (by repeat (first | (with_reducible first | exact HK.out | apply KeepBut.set_ | apply keep_drewN | apply keep_drew | apply keep_alloc) | exact HK.out)))); (case aL => have := LMc26.out; omega); intro v161 w28 ho hb hg hat; rw [← Ny160.out] at ho; replace HB := zA (below_weaken (by repeat (first | (with_reducible first | exact HB.out | apply below_alloc | apply pw_below_drewN | apply below_drew1 | refine below_set ?_ (IsS81.ge HI0.out)) | exact HB.out)) HL.out hb); replace HI0 := zA (IsS81.grown (by repeat (first | (with_reducible first | exact HI0.out | apply IsS81.alloc | apply IsS81.drewN | apply IsS81.drew | apply IsS81.set_1 | apply IsS81.set_2) | exact HI0.out)) hg (IsS81.own_ne HI0.out HO_7.out (by decide))); replace HK := zA (KeepBut.trans (by repeat (first | (with_reducible first | exact HK.out | apply KeepBut.set_ | apply keep_drewN | apply keep_drew | apply keep_alloc) | exact HK.out)) (KeepBut.of_grown hg g) (Kd.R_base2 HO_7.out)); have HO162 := zA (ho); clear HO_7 ho hb hg hat))
       go_roundg k2
       case measure => have := HK1.out; have := HK2.out; omega
       case rel => exact ⟨(y160), (wrap64 (x8_1 - 1)), (t157), (t158), (by first | rfl | (simp; done) | (simp [*]; done)), H', ⟨by have := HK1.out; have := HK2.out; omega⟩, ⟨uR HO162.out⟩, ⟨by repeat (first | (with_reducible first | exact HI0.out | apply IsS81.alloc | apply IsS81.drewN | apply IsS81.drew | apply IsS81.set_1 | apply IsS81.set_2) | exact HI0.out)⟩, ⟨by repeat (first | (with_reducible first | exact HK.out | apply KeepBut.set_ | apply keep_drewN | apply keep_drew | apply keep_alloc) | exact HK.out)⟩, ⟨by repeat (first | (with_reducible first | exact HB.out | apply below_alloc | apply pw_below_drewN | apply below_drew1 | refine below_set ?_ (IsS81.ge HI0.out)) | exact HB.out)⟩⟩
     rw [if_pos c19] at H
     have c19b0 : decide (x11_2 < (x7_1.length : Int)) = true := decide_eq_true c19
     clear c19
     by_cases c20 : x10_2 = true
     ·subst c20
      have H1 : (spec_l02DrawNodes.l1 k2 a1 x7_1 x8_1 t156 true (wrap64 (x11_2 + 1)) s0_0 t157 t158) = some (r1, r2, r3) := by rw [if_pos rfl] at H; exact H
      clear H
      have H := H1
      clear H1
      have H' := zA H
      clear H
      obtain ⟨Ao21, co21, eo21⟩ := Kd.R_slice HO_7.out
      subst eo21
      go_wp2
      go_roundg k2
      case measure => have := HK1.out; have := HK2.out; omega
      case rel => exact ⟨(true), (wrap64 (x11_2 + 1)), (by first | rfl | (simp; done) | (simp [*]; done)), (by first | rfl | (simp; done) | (simp [*]; done)), H', ⟨by have := HK1.out; have := HK2.out; omega⟩, ⟨uR HO_7.out⟩, ⟨by repeat (first | (with_reducible first | exact HI0.out | apply IsS81.alloc | apply IsS81.drewN | apply IsS81.drew | apply IsS81.set_1 | apply IsS81.set_2) | exact HI0.out)⟩, ⟨by repeat (first | (with_reducible first | exact HK.out | apply KeepBut.set_ | apply keep_drewN | apply keep_drew | apply keep_alloc) | exact HK.out)⟩, ⟨by repeat (first | (with_reducible first | exact HB.out | apply below_alloc | apply pw_below_drewN | apply below_drew1 | refine below_set ?_ (IsS81.ge HI0.out)) | exact HB.out)⟩⟩
     ·replace c20 := Bool.eq_false_iff.mpr c20
      subst c20
      have H1 : (if 0 ≤ x11_2 then (spec_l02DrawNodes.l1 k2 a1 x7_1 x8_1 t156 ((rd x7_1 x11_2) == t156) (wrap64 (x11_2 + 1)) s0_0 t157 t158) else (none)) = some (r1, r2, r3) := by rw [if_neg (show ¬ (false = true) by decide)] at H; exact H
      clear H
      have H := H1
      clear H1
      by_cases c22 : 0 ≤ x11_2
      rotate_left
      ·rw [if_neg c22] at H
       exact absurd H (by simp)
      rw [if_pos c22] at H
      have c22b0 : decide (0 ≤ x11_2) = true := decide_eq_true c22
      clear c22
      have H' := zA H
      clear H
      obtain ⟨Ao23, co23, eo23⟩ := Kd.R_slice HO_7.out
      subst eo23
      have p159 : 0 ≤ (x11_2 : Int) := of_decide_eq_true (by first | (with_reducible assumption) | assumption)
      have q159 : x11_2 < (x7_1.length : Int) := of_decide_eq_true (by first | (with_reducible assumption) | assumption)
      obtain ⟨ad159, e159, hx159_0⟩ := Kd.at_int (Kd.R_reads' HO_7.out).2.2 x11_2 p159 q159
      cases e159
      replace p159 := eq_true p159
      replace q159 := eq_true q159
      go_wp2
      go_roundg k2
      case measure => have := HK1.out; have := HK2.out; omega
      case rel => exact ⟨(((rd x7_1 x11_2) == t156)), (wrap64 (x11_2 + 1)), (by first | rfl | (simp; done) | (simp [*]; done)), (by first | rfl | (simp; done) | (simp [*]; done)), H', ⟨by have := HK1.out; have := HK2.out; omega⟩, ⟨uR HO_7.out⟩, ⟨by repeat (first | (with_reducible first | exact HI0.out | apply IsS81.alloc | apply IsS81.drewN | apply IsS81.drew | apply IsS81.set_1 | apply IsS81.set_2) | exact HI0.out)⟩, ⟨by repeat (first | (with_reducible first | exact HK.out | apply KeepBut.set_ | apply keep_drewN | apply keep_drew | apply keep_alloc) | exact HK.out)⟩, ⟨by repeat (first | (with_reducible first | exact HB.out | apply below_alloc | apply pw_below_drewN | apply below_drew1 | refine below_set ?_ (IsS81.ge HI0.out)) | exact HB.out)⟩⟩
/-! ### spec_l02Numbers: function 71 -/
def spec_l02Numbers.l0 : Nat → Int → List Int → Int → Option (Bool)
 | 0, _, _, _ => none
 | k + 1, x0, x1, x5 => if x5 < (x1.length : Int) then (if 0 ≤ x5 then ((spec_l01In.f (rd x1 x5) 0 (wrap64 (x0 - 1))).bind fun t470 => (if t470 = true then (spec_l02Numbers.l0 k x0 x1 (wrap64 (x5 + 1))) else (some false))) else (none)) else (some true)
def spec_l02Numbers.f (k : Nat) (a0 : Int) (l1 : List Int) : Option (Bool) := spec_l02Numbers.l0 k a0 l1 0
set_option maxHeartbeats 8000000 in
set_option maxRecDepth 100000 in
theorem spec_l02Numbers.calls (k : Nat) (a0 : Int) (A1 : Option Addr) (c1 : Nat) (l1 : List Int) (r : Bool) (w : World) (hr1 : Kd.C (Kd.int .i64) w A1 l1.length l1) (hc1 : l1.length ≤ c1) (h : spec_l02Numbers.f k a0 l1 = some r) :
  Calls Try.prog 71 #[.int .i64 a0, .slice A1 l1.length c1] w fun e w' => e = .returned (.bool r) ∧ Drawn0 w w' := by
 have HR1 := zA hr1
 have HC1 := zA hc1
 clear hr1 hc1
 have H : (spec_l02Numbers.l0 k a0 l1 0) = some r := h
 clear h
 have H' := zA H
 clear H
 go_enter Try.func71, Try.ntmps71
 go_wp2
 go_loopg [5] k (fun kq v5 w' => ∃ (x5_1 : Int), v5 = .int .i64 x5_1 ∧ Aside0 (spec_l02Numbers.l0 kq a0 l1 x5_1 = some r) ∧ Aside0 (kq ≤ k) ∧ Drawn0 w w')
 case atStart => exact ⟨(0), (by first | rfl | (simp; done) | (simp [*]; done)), H', ⟨Nat.le_refl _⟩, by repeat (first | exact Drawn0.refl _ | apply Drawn0.step)⟩
 case round =>
  clear H'
  (try clear c1);(try clear p2)
  obtain ⟨x5_1, rfl, HA, HK1, ⟨m1, rfl⟩⟩ := hrel
  cases gk with
  | zero => exact absurd HA.out (by simp [spec_l02Numbers.l0])
  | succ k1 =>
   have H := HA.out
   clear HA
   simp only [spec_l02Numbers.l0] at H
   by_cases c3 : x5_1 < (l1.length : Int)
   rotate_left
   ·rw [if_neg c3] at H
    have c3b0 : decide (x5_1 < (l1.length : Int)) = false := decide_eq_false c3
    clear c3
    obtain rfl := Option.some.inj H
    go_wp2
    go_ret
    exact ⟨by first | rfl | (simp; done) | (simp [*]; done), by repeat (first | exact Drawn0.refl _ | apply Drawn0.step)⟩

   rw [if_pos c3] at H
   have c3b0 : decide (x5_1 < (l1.length : Int)) = true := decide_eq_true c3
   clear c3
   by_cases c4 : 0 ≤ x5_1
   rotate_left
   ·rw [if_neg c4] at H
    exact absurd H (by simp)
   rw [if_pos c4] at H
   have c4b0 : decide (0 ≤ x5_1) = true := decide_eq_true c4
   clear c4
   replace H := Option.bind_eq_some_iff.mp H
   obtain ⟨t470, A50, H⟩ := H
   replace H : (if t470 = true then (spec_l02Numbers.l0 k1 a0 l1 (wrap64 (x5_1 + 1))) else (some false)) = some r := H
   have A5 := zA A50
   clear A50
   by_cases c6 : t470 = true
   ·subst c6
    have H1 : (spec_l02Numbers.l0 k1 a0 l1 (wrap64 (x5_1 + 1))) = some r := by rw [if_pos rfl] at H; exact H
    clear H
    have H := H1
    clear H1
    have H' := zA H
    clear H
    have p469 : 0 ≤ (x5_1 : Int) := of_decide_eq_true (by first | (with_reducible assumption) | assumption)
    have q469 : x5_1 < (l1.length : Int) := of_decide_eq_true (by first | (with_reducible assumption) | assumption)
    obtain ⟨ad469, e469, hx469_0⟩ := Kd.at_int HR1.out x5_1 p469 q469
    cases e469
    replace p469 := eq_true p469
    replace q469 := eq_true q469
    go_wp2_with (first | ((with_reducible refine gate_callee (f := 53) rfl ?_); refine gL (some 18) Try.func53 #[.int .i64 (rd l1 x5_1), .int .i64 0, .int .i64 (wrap64 (a0 - 1))] ?_; (with_reducible refine (spec_l01In.calls (rd l1 x5_1) 0 (wrap64 (a0 - 1)) true _ A5.out).mono ?_); rintro e w' ⟨rfl, ⟨nd, rfl⟩⟩; refine ⟨_, rfl, ?_⟩))
    go_roundg k1
    case measure => have := HK1.out; omega
    case rel => exact ⟨(wrap64 (x5_1 + 1)), (by first | rfl | (simp; done) | (simp [*]; done)), H', ⟨by have := HK1.out; omega⟩, by repeat (first | exact Drawn0.refl _ | apply Drawn0.step)⟩
   ·replace c6 := Bool.eq_false_iff.mpr c6
    subst c6
    have H1 : (some false) = some r := by rw [if_neg (show ¬ (false = true) by decide)] at H; exact H
    clear H
    have H := H1
    clear H1
    obtain rfl := Option.some.inj H
    have p469 : 0 ≤ (x5_1 : Int) := of_decide_eq_true (by first | (with_reducible assumption) | assumption)
    have q469 : x5_1 < (l1.length : Int) := of_decide_eq_true (by first | (with_reducible assumption) | assumption)
    obtain ⟨ad469, e469, hx469_0⟩ := Kd.at_int HR1.out x5_1 p469 q469
    cases e469
    replace p469 := eq_true p469
    replace q469 := eq_true q469
    go_wp2_with (first | ((with_reducible refine gate_callee (f := 53) rfl ?_); refine gL (some 18) Try.func53 #[.int .i64 (rd l1 x5_1), .int .i64 0, .int .i64 (wrap64 (a0 - 1))] ?_; (with_reducible refine (spec_l01In.calls (rd l1 x5_1) 0 (wrap64 (a0 - 1)) false _ A5.out).mono ?_); rintro e w' ⟨rfl, ⟨nd, rfl⟩⟩; refine ⟨_, rfl, ?_⟩))
    go_ret
    exact ⟨by first | rfl | (simp; done) | (simp [*]; done), by repeat (first | exact Drawn0.refl _ | apply Drawn0.step)⟩
/-! ### spec_l02Are: function 42 -/
def spec_l02Are.f (k : Nat) (a0_0 : Int) (l0_1 : List Int) : Option (Bool) := (spec_l01Prime.f k a0_0).bind fun t472 => (if t472 = true then (if (l0_1.length : Int) ≥ 1 then (if (l0_1.length : Int) ≤ 24 then ((spec_l02Numbers.f k a0_0 l0_1).bind fun t473 => (some t473)) else (some false)) else (some false)) else (some false))
set_option maxHeartbeats 8000000 in
set_option maxRecDepth 100000 in
theorem spec_l02Are.calls (k : Nat) (a0_0 : Int) (A0_1 : Option Addr) (c0_1 : Nat) (l0_1 : List Int) (r : Bool) (w : World) (hr0_1 : Kd.C (Kd.int .i64) w A0_1 l0_1.length l0_1) (hc0_1 : l0_1.length ≤ c0_1) (h : spec_l02Are.f k a0_0 l0_1 = some r) :
  Calls Try.prog 42 #[.agg #[.int .i64 a0_0, .slice A0_1 l0_1.length c0_1]] w fun e w' => e = .returned (.bool r) ∧ Below w.heap.size w w' := by
 have hu26 := Try.underlying26
 have HR0_1 := zA hr0_1
 have HC0_1 := zA hc0_1
 clear hr0_1 hc0_1
 have HB := zA (Below.refl w.heap.size w)
 have H : ((spec_l01Prime.f k a0_0).bind fun t472 => (if t472 = true then (if (l0_1.length : Int) ≥ 1 then (if (l0_1.length : Int) ≤ 24 then ((spec_l02Numbers.f k a0_0 l0_1).bind fun t473 => (some t473)) else (some false)) else (some false)) else (some false))) = some r := h
 clear h
 replace H := Option.bind_eq_some_iff.mp H
 obtain ⟨t472, A20, H⟩ := H
 replace H : (if t472 = true then (if (l0_1.length : Int) ≥ 1 then (if (l0_1.length : Int) ≤ 24 then ((spec_l02Numbers.f k a0_0 l0_1).bind fun t473 => (some t473)) else (some false)) else (some false)) else (some false)) = some r := H
 have A2 := zA A20
 clear A20
 by_cases c3 : t472 = true
 ·subst c3
  have H1 : (if (l0_1.length : Int) ≥ 1 then (if (l0_1.length : Int) ≤ 24 then ((spec_l02Numbers.f k a0_0 l0_1).bind fun t473 => (some t473)) else (some false)) else (some false)) = some r := by rw [if_pos rfl] at H; exact H
  clear H
  have H := H1
  clear H1
  by_cases c4 : (l0_1.length : Int) ≥ 1
  rotate_left
  ·rw [if_neg c4] at H
   have c4b0 : decide (1 ≤ (l0_1.length : Int)) = false := decide_eq_false c4
   have c4b1 : decide (1 ≤ l0_1.length) = false := decide_eq_false (by omega)
   clear c4
   obtain rfl := Option.some.inj H
   go_enter Try.func42, Try.ntmps42
   go_wp2_with (first | ((with_reducible refine gate_dst (N := 1) rfl ?_); (try (refine gate_guard (by rfl) ?_; dsimp only)); refine bx 1 #[.int .i64 a0_0, .slice A0_1 l0_1.length c0_1] 26 ?_; intro gb471 hg w11 hbox hb; have BK471 := zA (hbox); have GW471 := gq HB hg; have GE471 := gq HB hg; replace HB := xH HB hb; have := geI GE471; clear hb hbox hg; have hcz12_0 := bc BK471 0; have hcz12_1 := bc BK471 1; have hfz12_0 := bf BK471 0; have hfz12_1 := bf BK471 1) | ((with_reducible refine gate_callee (f := 75) rfl ?_); refine gL (some 5) Try.func75 #[.int .i64 a0_0] ?_; (with_reducible refine (spec_l01Prime.calls k a0_0 true _ A2.out).mono ?_); rintro e w' ⟨rfl, ⟨nd, rfl⟩⟩; refine ⟨_, rfl, ?_⟩))
   go_ret
   exact ⟨by first | rfl | (simp [errW_none, errW_some] <;> rfl) | (simp [*, errW_none, errW_some] <;> rfl), uH HB.out⟩
  rw [if_pos c4] at H
  have c4b0 : decide (1 ≤ (l0_1.length : Int)) = true := decide_eq_true c4
  have c4b1 : decide (1 ≤ l0_1.length) = true := decide_eq_true (by omega)
  clear c4
  by_cases c5 : (l0_1.length : Int) ≤ 24
  rotate_left
  ·rw [if_neg c5] at H
   have c5b0 : decide ((l0_1.length : Int) ≤ 24) = false := decide_eq_false c5
   have c5b1 : decide (l0_1.length ≤ 24) = false := decide_eq_false (by omega)
   clear c5
   obtain rfl := Option.some.inj H
   go_enter Try.func42, Try.ntmps42
   go_wp2_with (first | ((with_reducible refine gate_dst (N := 1) rfl ?_); (try (refine gate_guard (by rfl) ?_; dsimp only)); refine bx 1 #[.int .i64 a0_0, .slice A0_1 l0_1.length c0_1] 26 ?_; intro gb471 hg w9 hbox hb; have BK471 := zA (hbox); have GW471 := gq HB hg; have GE471 := gq HB hg; replace HB := xH HB hb; have := geI GE471; clear hb hbox hg; have hcz10_0 := bc BK471 0; have hcz10_1 := bc BK471 1; have hfz10_0 := bf BK471 0; have hfz10_1 := bf BK471 1) | ((with_reducible refine gate_callee (f := 75) rfl ?_); refine gL (some 5) Try.func75 #[.int .i64 a0_0] ?_; (with_reducible refine (spec_l01Prime.calls k a0_0 true _ A2.out).mono ?_); rintro e w' ⟨rfl, ⟨nd, rfl⟩⟩; refine ⟨_, rfl, ?_⟩))
   go_ret
   exact ⟨by first | rfl | (simp [errW_none, errW_some] <;> rfl) | (simp [*, errW_none, errW_some] <;> rfl), uH HB.out⟩
  rw [if_pos c5] at H
  have c5b0 : decide ((l0_1.length : Int) ≤ 24) = true := decide_eq_true c5
  have c5b1 : decide (l0_1.length ≤ 24) = true := decide_eq_true (by omega)
  clear c5
  replace H := Option.bind_eq_some_iff.mp H
  obtain ⟨t473, A60, H⟩ := H
  replace H : (some t473) = some r := H
  have A6 := zA A60
  clear A60
  obtain rfl := Option.some.inj H
  go_enter Try.func42, Try.ntmps42
  go_wp2_with (first | ((with_reducible refine gate_dst (N := 1) rfl ?_); (try (refine gate_guard (by rfl) ?_; dsimp only)); refine bx 1 #[.int .i64 a0_0, .slice A0_1 l0_1.length c0_1] 26 ?_; intro gb471 hg w7 hbox hb; have BK471 := zA (hbox); have GW471 := gq HB hg; have GE471 := gq HB hg; replace HB := xH HB hb; have := geI GE471; clear hb hbox hg; have hcz8_0 := bc BK471 0; have hcz8_1 := bc BK471 1; have hfz8_0 := bf BK471 0; have hfz8_1 := bf BK471 1) | ((with_reducible refine gate_callee (f := 75) rfl ?_); refine gL (some 5) Try.func75 #[.int .i64 a0_0] ?_; (with_reducible refine (spec_l01Prime.calls k a0_0 true _ A2.out).mono ?_); rintro e w' ⟨rfl, ⟨nd, rfl⟩⟩; refine ⟨_, rfl, ?_⟩) | (go_at_call 71; (with_reducible refine (spec_l02Numbers.calls k a0_0 _ _ l0_1 t473 _ ?side1 ?side2 A6.out).mono ?_); (case side1 => repeat (first | exact (Kd.C_below HR0_1.out (uH HB.out)) | (with_reducible refine Kd.C_alloc ?_ _) | (with_reducible refine Kd.C_drewN ?_ _) | (with_reducible refine Kd.C_drew ?_))); (case side2 => exact HC0_1.out); rintro e w' ⟨rfl, ⟨nd, rfl⟩⟩))
  go_ret
  exact ⟨by first | rfl | (simp [errW_none, errW_some] <;> rfl) | (simp [*, errW_none, errW_some] <;> rfl), uH HB.out⟩
 ·replace c3 := Bool.eq_false_iff.mpr c3
  subst c3
  have H1 : (some false) = some r := by rw [if_neg (show ¬ (false = true) by decide)] at H; exact H
  clear H
  have H := H1
  clear H1
  obtain rfl := Option.some.inj H
  go_enter Try.func42, Try.ntmps42
  go_wp2_with (first | ((with_reducible refine gate_dst (N := 1) rfl ?_); (try (refine gate_guard (by rfl) ?_; dsimp only)); refine bx 1 #[.int .i64 a0_0, .slice A0_1 l0_1.length c0_1] 26 ?_; intro gb471 hg w13 hbox hb; have BK471 := zA (hbox); have GW471 := gq HB hg; have GE471 := gq HB hg; replace HB := xH HB hb; have := geI GE471; clear hb hbox hg; have hcz14_0 := bc BK471 0; have hcz14_1 := bc BK471 1; have hfz14_0 := bf BK471 0; have hfz14_1 := bf BK471 1) | ((with_reducible refine gate_callee (f := 75) rfl ?_); refine gL (some 5) Try.func75 #[.int .i64 a0_0] ?_; (with_reducible refine (spec_l01Prime.calls k a0_0 false _ A2.out).mono ?_); rintro e w' ⟨rfl, ⟨nd, rfl⟩⟩; refine ⟨_, rfl, ?_⟩))
  go_ret
  exact ⟨by first | rfl | (simp [errW_none, errW_some] <;> rfl) | (simp [*, errW_none, errW_some] <;> rfl), uH HB.out⟩
/-! ### spec_AreMoments: function 10 -/
def spec_AreMoments.f (k : Nat) (a0_0 : Int) (l0_1 : List Int) : Option (Bool) := (spec_l02Are.f k a0_0 l0_1).bind fun t487 => (some t487)
set_option maxHeartbeats 8000000 in
set_option maxRecDepth 100000 in
theorem spec_AreMoments.calls (k : Nat) (a0_0 : Int) (A0_1 : Option Addr) (c0_1 : Nat) (l0_1 : List Int) (r : Bool) (w : World) (hr0_1 : Kd.C (Kd.int .i64) w A0_1 l0_1.length l0_1) (hc0_1 : l0_1.length ≤ c0_1) (h : spec_AreMoments.f k a0_0 l0_1 = some r) :
  Calls Try.prog 10 #[.agg #[.int .i64 a0_0, .slice A0_1 l0_1.length c0_1]] w fun e w' => e = .returned (.bool r) ∧ Below w.heap.size w w' := by
 have hu26 := Try.underlying26
 have HR0_1 := zA hr0_1
 have HC0_1 := zA hc0_1
 clear hr0_1 hc0_1
 have HB := zA (Below.refl w.heap.size w)
 have H : ((spec_l02Are.f k a0_0 l0_1).bind fun t487 => (some t487)) = some r := h
 clear h
 replace H := Option.bind_eq_some_iff.mp H
 obtain ⟨t487, A20, H⟩ := H
 replace H : (some t487) = some r := H
 have A2 := zA A20
 clear A20
 obtain rfl := Option.some.inj H
 go_enter Try.func10, Try.ntmps10
 go_wp2_with (first | ((with_reducible refine gate_dst (N := 1) rfl ?_); refine bx 1 #[.int .i64 a0_0, .slice A0_1 l0_1.length c0_1] 26 ?_; intro gb486 hg w3 hbox hb; have BK486 := zA (hbox); have GW486 := gq HB hg; have GE486 := gq HB hg; replace HB := xH HB hb; have := geI GE486; clear hb hbox hg; have hcz4_0 := bc BK486 0; have hcz4_1 := bc BK486 1; have hfz4_0 := bf BK486 0; have hfz4_1 := bf BK486 1) | ((with_reducible refine gate_callee (f := 42) rfl ?_); refine gL (some 4) Try.func42 #[.agg #[.int .i64 a0_0, .slice A0_1 l0_1.length c0_1]] ?_; (with_reducible refine (spec_l02Are.calls k a0_0 _ _ l0_1 t487 _ ?side1 ?side2 A2.out).mono ?_); (case side1 => exact uC ((Kd.C_below HR0_1.out HB.out))); (case side2 => exact HC0_1.out); rintro e w5 ⟨rfl, hb⟩; refine ⟨_, rfl, ?_⟩; replace BK486 := xB BK486 hb; replace HB := xH HB hb; (try clear hb); (try clear hb2); (try clear hk); (try clear hi)))
 go_ret
 exact ⟨by first | rfl | (simp [errW_none, errW_some] <;> rfl) | (simp [*, errW_none, errW_some] <;> rfl), uH HB.out⟩
/-! ### spec_CutMoments: function 20 -/
def spec_CutMoments.f (k : Nat) (a0_0 : Int) (l0_1 : List Int) (a1 : Int) : Option (Int × List Int × Int) := (spec_l02Are.f k a0_0 l0_1).bind fun t599 => (if t599 = true then ((spec_l01In.f a1 1 (l0_1.length : Int)).bind fun t600 => (if t600 = true then (if 0 ≤ a1 then (if a1 ≤ (l0_1.length : Int) then ((spec_l01Own.f (l0_1.take (a1 : Int).toNat)).bind fun t602 => (some (a0_0, t602, 0))) else (none)) else (none)) else (some (0, ([] : List Int), 2)))) else (some (0, ([] : List Int), 1)))
def spec_CutMoments.T5 : Bool × List (List Nat × List Nat) := (true, [([], []), ([0], [0]), ([], []), ([2], [2]), ([], []), ([3, 4], [3, 4]), ([5], [5]), ([1, 6], [1, 6]), ([7, 6, 0, 1, 2, 3, 4, 5, 6, 7], [7]), ([8, 0, 1, 2, 3, 4, 5, 6, 7, 8], [])])
def spec_CutMoments.B5 : List Nat := [0, 1, 0, 4, 0, 28, 60, 127, 255, 511]
theorem spec_CutMoments.tab5 : rtab .any (opsOf Try.f20 5) = spec_CutMoments.T5 := by kernel_rfl
theorem spec_CutMoments.bits5 : waitsOk spec_CutMoments.T5.2 spec_CutMoments.B5 = true := by kernel_rfl
set_option maxHeartbeats 8000000 in
set_option maxRecDepth 100000 in
theorem spec_CutMoments.calls (k : Nat) (a0_0 : Int) (A0_1 : Option Addr) (c0_1 : Nat) (l0_1 : List Int) (a1 : Int) (r1 : Int) (r2 : List Int) (r3 : Int) (w : World) (hr0_1 : Kd.C (Kd.int .i64) w A0_1 l0_1.length l0_1) (hc0_1 : l0_1.length ≤ c0_1) (h : spec_CutMoments.f k a0_0 l0_1 a1 = some (r1, r2, r3)) :
  Calls Try.prog 20 #[.agg #[.int .i64 a0_0, .slice A0_1 l0_1.length c0_1], .int .i64 a1] w fun e w' => ∃ v1_ : Value, e = .returned (.tuple #[.agg #[.int .i64 r1, v1_], .int .i64 r3]) ∧ Kd.R (Kd.int .i64) 2 w' w.heap.size (fun _ => True) v1_ r2 ∧ Below w.heap.size w w' := by
 have hu26 := Try.underlying26
 have HR0_1 := zA hr0_1
 have HC0_1 := zA hc0_1
 clear hr0_1 hc0_1
 have HB := zA (Below.refl w.heap.size w)
 have H : ((spec_l02Are.f k a0_0 l0_1).bind fun t599 => (if t599 = true then ((spec_l01In.f a1 1 (l0_1.length : Int)).bind fun t600 => (if t600 = true then (if 0 ≤ a1 then (if a1 ≤ (l0_1.length : Int) then ((spec_l01Own.f (l0_1.take (a1 : Int).toNat)).bind fun t602 => (some (a0_0, t602, 0))) else (none)) else (none)) else (some (0, ([] : List Int), 2)))) else (some (0, ([] : List Int), 1)))) = some (r1, r2, r3) := h
 clear h
 replace H := Option.bind_eq_some_iff.mp H
 obtain ⟨t599, A30, H⟩ := H
 replace H : (if t599 = true then ((spec_l01In.f a1 1 (l0_1.length : Int)).bind fun t600 => (if t600 = true then (if 0 ≤ a1 then (if a1 ≤ (l0_1.length : Int) then ((spec_l01Own.f (l0_1.take (a1 : Int).toNat)).bind fun t602 => (some (a0_0, t602, 0))) else (none)) else (none)) else (some (0, ([] : List Int), 2)))) else (some (0, ([] : List Int), 1))) = some (r1, r2, r3) := H
 have A3 := zA A30
 clear A30
 by_cases c4 : t599 = true
 ·subst c4
  have H1 : ((spec_l01In.f a1 1 (l0_1.length : Int)).bind fun t600 => (if t600 = true then (if 0 ≤ a1 then (if a1 ≤ (l0_1.length : Int) then ((spec_l01Own.f (l0_1.take (a1 : Int).toNat)).bind fun t602 => (some (a0_0, t602, 0))) else (none)) else (none)) else (some (0, ([] : List Int), 2)))) = some (r1, r2, r3) := by rw [if_pos rfl] at H; exact H
  clear H
  have H := H1
  clear H1
  replace H := Option.bind_eq_some_iff.mp H
  obtain ⟨t600, A50, H⟩ := H
  replace H : (if t600 = true then (if 0 ≤ a1 then (if a1 ≤ (l0_1.length : Int) then ((spec_l01Own.f (l0_1.take (a1 : Int).toNat)).bind fun t602 => (some (a0_0, t602, 0))) else (none)) else (none)) else (some (0, ([] : List Int), 2))) = some (r1, r2, r3) := H
  have A5 := zA A50
  clear A50
  by_cases c6 : t600 = true
  ·subst c6
   have H1 : (if 0 ≤ a1 then (if a1 ≤ (l0_1.length : Int) then ((spec_l01Own.f (l0_1.take (a1 : Int).toNat)).bind fun t602 => (some (a0_0, t602, 0))) else (none)) else (none)) = some (r1, r2, r3) := by rw [if_pos rfl] at H; exact H
   clear H
   have H := H1
   clear H1
   by_cases c7 : 0 ≤ a1
   rotate_left
   ·rw [if_neg c7] at H
    exact absurd H (by simp)
   rw [if_pos c7] at H
   have c7b0 := eq_true c7
   have c7b1 : decide (0 ≤ a1) = true := decide_eq_true c7
   clear c7
   by_cases c8 : a1 ≤ (l0_1.length : Int)
   rotate_left
   ·rw [if_neg c8] at H
    exact absurd H (by simp)
   rw [if_pos c8] at H
   have c8b0 := eq_true c8
   have c8b1 : decide (a1 ≤ (l0_1.length : Int)) = true := decide_eq_true c8
   clear c8
   replace H := Option.bind_eq_some_iff.mp H
   obtain ⟨t602, A90, H⟩ := H
   replace H : (some (a0_0, t602, 0)) = some (r1, r2, r3) := H
   have A9 := zA A90
   clear A90
   simp only [Option.some.injEq, Prod.mk.injEq] at H
   obtain ⟨rfl, rfl, rfl⟩ := H
   go_enter Try.func20, Try.ntmps20
   try go_wp2_with (first | ((with_reducible refine gate_dst (N := 2) rfl ?_); refine bx 2 #[.int .i64 a0_0, .slice A0_1 l0_1.length c0_1] 26 ?_; intro gb597 hg w10 hbox hb; have BK597 := zA (hbox); have GW597 := gq HB hg; have GE597 := gq HB hg; replace HB := xH HB hb; have := geI GE597; clear hb hbox hg) | ((with_reducible refine gate_dst (N := 4) rfl ?_); refine bx 4 #[.int .i64 0, .slice none 0 0] 26 ?_; intro gb598 hg w11 hbox hb; have BK598 := zA (hbox); have GW598 := gq HB hg; have GE598 := gq HB hg; replace HB := xH HB hb; have NB597_598 := zA ((by rw [hg]; exact neL BK597 : gb597 ≠ gb598)); have NB598_597 := zA ((by rw [hg]; exact neG BK597 : gb598 ≠ gb597)); replace BK597 := xB BK597 hb; have := geI GE598; clear hb hbox hg; have hnb12 := NB597_598.out; have hnc12 := NB598_597.out; have hcz13_0 := bc BK597 0; have hcz13_1 := bc BK597 1; have hfz13_0 := bf BK597 0; have hfz13_1 := bf BK597 1) | ((with_reducible refine gate_callee (f := 42) rfl ?_); refine gL (some 8) Try.func42 #[.agg #[.int .i64 a0_0, .slice A0_1 l0_1.length c0_1]] ?_; (with_reducible refine (spec_l02Are.calls k a0_0 _ _ l0_1 true _ ?side1 ?side2 A3.out).mono ?_); (case side1 => exact uC ((Kd.C_below HR0_1.out HB.out))); (case side2 => exact HC0_1.out); rintro e w14 ⟨rfl, hb⟩; refine ⟨_, rfl, ?_⟩; replace BK597 := xB BK597 hb; replace BK598 := xB BK598 hb; replace HB := xH HB hb; (try clear hb); (try clear hb2); (try clear hk); (try clear hi); have hcz15_0 := bc BK597 0; have hcz15_1 := bc BK597 1; have hfz15_0 := bf BK597 0; have hfz15_1 := bf BK597 1) | ((with_reducible refine gate_callee (f := 53) rfl ?_); refine gL (some 16) Try.func53 #[.int .i64 a1, .int .i64 1, .int .i64 (l0_1.length : Int)] ?_; (with_reducible refine (spec_l01In.calls a1 1 (l0_1.length : Int) true _ A5.out).mono ?_); rintro e w' ⟨rfl, ⟨nd, rfl⟩⟩; refine ⟨_, rfl, ?_⟩; (try (rw [drewN_self w14]; generalize hq_ : World.drewN w14 _ = w14; have n0_ : Aside0 (w14.heap[gb597]? = some (.cells #[.int .i64 a0_0, .slice A0_1 l0_1.length c0_1] 26 (0, 0))) := ⟨by rw [← hq_]; exact (uB BK597.out)⟩; have n1_ : Aside0 (w14.heap[gb598]? = some (.cells #[.int .i64 0, .slice none 0 0] 26 (0, 0))) := ⟨by rw [← hq_]; exact (uB BK598.out)⟩; have n2_ : Aside0 (Below w.heap.size w w14) := ⟨by rw [← hq_]; exact (uH HB.out)⟩; clear BK597 BK598 HB hq_; have BK597 := n0_; have BK598 := n1_; have HB := n2_; clear n0_ n1_ n2_)); (try have hcuy16_0 : w14.cell? ⟨gb597, 0, none⟩ = some (.int .i64 a0_0) := (blk_cell BK597.out 0).trans rfl); (try have hcuy16_1 : w14.cell? ⟨gb597, 1, none⟩ = some (.slice A0_1 l0_1.length c0_1) := (blk_cell BK597.out 1).trans rfl)))
   replace BK597 := zA (blk_drew BK597.out)
   replace BK598 := zA (blk_drew BK598.out)
   replace HB := zA (below_drew1 HB.out)
   obtain ⟨i018, hi018, _, hsz18, _⟩ := info_parts info2
   obtain ⟨hcut18, hA18, hC18⟩ := print_take_of (P := Try.prog) (Value.int .i64) 0 24 2 .i64 Try.underlying24 hi018 hsz18 A0_1 c0_1 l0_1 a1 (of_decide_eq_true (by first | (with_reducible assumption) | assumption)) (of_decide_eq_true (by first | (with_reducible assumption) | assumption)) HC0_1.out
   have HR601 := zA (Kd.C_of_reads (h1 := fun _ => rfl) (hA18 _ (Kd.reads_of_C HR0_1.out)))
   have HC601 := zA hC18
   clear hA18 hC18 hi018 hsz18
   refine start_ (n := 10) (S := fun w' => w'.cell? ⟨gb597, 0, none⟩ = some (.int .i64 a0_0) ∧ w'.cell? ⟨gb597, 1, none⟩ = some (.slice A0_1 l0_1.length c0_1)) (ds := []) #[false, false, false, false, false, false, false, false, false, false] (by kernel_rfl) rfl rfl ⟨bcu BK597 0, bcu BK597 1⟩ (fun hHeld => ?_); refine with_tabW spec_CutMoments.tab5 spec_CutMoments.bits5 (fun HT_ HW_ => ?_)
   generalize w14.drew = w17 at BK597 BK598 HB HR601 hHeld ⊢
   refine pu_ 0 19 (bl 10 1) HT_ ?_
   refine pu_ 2 21 (bl 10 5) HT_ ?_
   refine pu_ 4 23 (bl 10 21) HT_ ?_
   refine ta_ 1 20 (bl 10 23) HT_ HW_ hHeld ?_
   refine ta_ 3 22 (bl 10 31) HT_ HW_ hHeld ?_
   refine pu_ 5 24 (bl 10 63) HT_ ?_
   refine on_ 6 (some 25) (bl 10 127) HT_ (fun K hK => ?_)
   refine goes_ Try.func50 (by kernel_rfl) rfl #[.slice A0_1 (l0_1.take (a1 : Int).toNat).length c0_1] (by rfl) rfl rfl (by (try simp only [la, lb, lc]); first | done | (rw [show (l0_1.take (a1 : Int).toNat).length = a1.toNat from (by rw [List.length_take]; have h_ : (a1 : Int) ≤ (l0_1.length : Int) := of_decide_eq_true (by first | (with_reducible assumption) | assumption); omega)] <;> rfl) | rfl | (simp only [ld, le]; rfl)) ?_
   with_reducible refine (spec_l01Own.calls _ _ (l0_1.take (a1 : Int).toNat) t602 _ ?side1 ?side2 A9.out).mono ?_
   (case side1 => exact uC ((Kd.C_below HR601.out HB.out)))
   (case side2 => exact HC601.out)
   rintro e w19 ⟨v603, rfl, ho0, hb⟩
   refine ⟨_, rfl, ?_⟩
   have HO604 := zA (Kd.R_lower ho0 (below_size (uH HB.out)))
   replace BK597 := xB BK597 hb
   replace BK598 := xB BK598 hb
   replace HB := xH HB hb
   (try clear hb); (try clear hb2); (try clear hk); (try clear hi); (try clear ho0)
   obtain ⟨Ao20, co20, eo20⟩ := Kd.R_slice HO604.out
   (first | subst eo20 | (injection eo20 with f1_ f2_ f3_; have f4_ := f1_.symm; have f5_ := f3_.symm; clear f1_ f2_ f3_; subst f4_; subst f5_))
   refine hK.out _ _ ⟨bcu BK597 0, bcu BK597 1⟩ (fun hHeld => ?_)
   clear hK K
   refine no_ 25 ?_
   refine pu_ 7 26 (bl 10 255) HT_ ?_
   refine on_ 8 (none) (bl 10 511) HT_ (fun K hK => ?_)
   have hs21 : w19.cell? ⟨gb598, 0, none⟩ = some (.int .i64 0) := (blk_cell BK598.out 0).trans rfl
   have hfs21 := bf BK598 0
   have hns21_0 := NB597_598.out; have hms21_0 := NB598_597.out
   have hs22 : w19.cell? ⟨gb598, 1, none⟩ = some (.slice none 0 0) := (blk_cell BK598.out 1).trans rfl
   have hfs22 := bf BK598 1
   have hns22_0 := NB597_598.out; have hms22_0 := NB598_597.out
   refine skip_ (w1 := ?_) (by rfl) rfl ?_ ?_
   rotate_left
   ·go_simp
    rfl
   refine hK.out _ _ ⟨((cell_far (p := ⟨gb598, _, none⟩) NB597_598.out _).trans (((cell_far (p := ⟨gb598, _, none⟩) NB597_598.out _).trans (hHeld.1)))), ((cell_far (p := ⟨gb598, _, none⟩) NB597_598.out _).trans (((cell_far (p := ⟨gb598, _, none⟩) NB597_598.out _).trans (hHeld.2))))⟩ (fun hHeld => ?_)
   clear hK K
   refine pu_ 9 5 (bl 10 1023) HT_ ?_
   refine done_ (done_of HT_.out (by kernel_rfl)) ?_
   try go_wp2
   refine bodyPost_ret (results_ct rfl _ _ gb598 26 #[.int .i64 a0_0, .slice Ao20 t602.length co20] (0, 0) _ rfl (by (repeat refine up1 ?_); refine blk_put (cs := #[.int .i64 a0_0, .slice none 0 0]) ?_ 1 _ rfl; (repeat refine up1 ?_); refine blk_put (cs := #[.int .i64 0, .slice none 0 0]) ?_ 0 _ rfl; (repeat refine up1 ?_); exact BK598.out) Try.underlying26 rfl (by kernel_rfl)) rfl ?_
   exact ⟨_, by first | rfl | (simp [errW_none, errW_some] <;> rfl) | (simp [*, errW_none, errW_some] <;> rfl), uR (Kd.R_mono (Kd.R_far (p := ⟨gb598, 1, none⟩) (Kd.R_far (p := ⟨gb598, 0, none⟩) (Kd.R_types HO604.out BK598.out (by decide)) (fun _ hk => hk.2) (.int .i64 a0_0)) (fun _ hk => hk.2) (.slice Ao20 t602.length co20)) (fun _ hk => trivial)), uH HB.out⟩
  ·replace c6 := Bool.eq_false_iff.mpr c6
   subst c6
   have H1 : (some (0, ([] : List Int), 2)) = some (r1, r2, r3) := by rw [if_neg (show ¬ (false = true) by decide)] at H; exact H
   clear H
   have H := H1
   clear H1
   simp only [Option.some.injEq, Prod.mk.injEq] at H
   obtain ⟨rfl, rfl, rfl⟩ := H
   go_enter Try.func20, Try.ntmps20
   go_wp2_with (first | ((with_reducible refine gate_dst (N := 2) rfl ?_); refine bx 2 #[.int .i64 a0_0, .slice A0_1 l0_1.length c0_1] 26 ?_; intro gb597 hg w23 hbox hb; have BK597 := zA (hbox); have GW597 := gq HB hg; have GE597 := gq HB hg; replace HB := xH HB hb; have := geI GE597; clear hb hbox hg) | ((with_reducible refine gate_dst (N := 4) rfl ?_); refine bx 4 #[.int .i64 0, .slice none 0 0] 26 ?_; intro gb598 hg w24 hbox hb; have BK598 := zA (hbox); have GW598 := gq HB hg; have GE598 := gq HB hg; replace HB := xH HB hb; have NB597_598 := zA ((by rw [hg]; exact neL BK597 : gb597 ≠ gb598)); have NB598_597 := zA ((by rw [hg]; exact neG BK597 : gb598 ≠ gb597)); replace BK597 := xB BK597 hb; have := geI GE598; clear hb hbox hg; have hnb25 := NB597_598.out; have hnc25 := NB598_597.out; have hcz26_0 := bc BK597 0; have hcz26_1 := bc BK597 1; have hfz26_0 := bf BK597 0; have hfz26_1 := bf BK597 1) | ((with_reducible refine gate_callee (f := 42) rfl ?_); refine gL (some 8) Try.func42 #[.agg #[.int .i64 a0_0, .slice A0_1 l0_1.length c0_1]] ?_; (with_reducible refine (spec_l02Are.calls k a0_0 _ _ l0_1 true _ ?side1 ?side2 A3.out).mono ?_); (case side1 => exact uC ((Kd.C_below HR0_1.out HB.out))); (case side2 => exact HC0_1.out); rintro e w27 ⟨rfl, hb⟩; refine ⟨_, rfl, ?_⟩; replace BK597 := xB BK597 hb; replace BK598 := xB BK598 hb; replace HB := xH HB hb; (try clear hb); (try clear hb2); (try clear hk); (try clear hi); have hcz28_0 := bc BK597 0; have hcz28_1 := bc BK597 1; have hfz28_0 := bf BK597 0; have hfz28_1 := bf BK597 1) | ((with_reducible refine gate_callee (f := 53) rfl ?_); refine gL (some 16) Try.func53 #[.int .i64 a1, .int .i64 1, .int .i64 (l0_1.length : Int)] ?_; (with_reducible refine (spec_l01In.calls a1 1 (l0_1.length : Int) false _ A5.out).mono ?_); rintro e w' ⟨rfl, ⟨nd, rfl⟩⟩; refine ⟨_, rfl, ?_⟩; (try (rw [drewN_self w27]; generalize hq_ : World.drewN w27 _ = w27; have n0_ : Aside0 (w27.heap[gb597]? = some (.cells #[.int .i64 a0_0, .slice A0_1 l0_1.length c0_1] 26 (0, 0))) := ⟨by rw [← hq_]; exact (uB BK597.out)⟩; have n1_ : Aside0 (w27.heap[gb598]? = some (.cells #[.int .i64 0, .slice none 0 0] 26 (0, 0))) := ⟨by rw [← hq_]; exact (uB BK598.out)⟩; have n2_ : Aside0 (Below w.heap.size w w27) := ⟨by rw [← hq_]; exact (uH HB.out)⟩; clear BK597 BK598 HB hq_; have BK597 := n0_; have BK598 := n1_; have HB := n2_; clear n0_ n1_ n2_)); (try have hcuy29_0 : w27.cell? ⟨gb597, 0, none⟩ = some (.int .i64 a0_0) := (blk_cell BK597.out 0).trans rfl); (try have hcuy29_1 : w27.cell? ⟨gb597, 1, none⟩ = some (.slice A0_1 l0_1.length c0_1) := (blk_cell BK597.out 1).trans rfl); have hcz30_0 := bc BK598 0; have hcz30_1 := bc BK598 1; have hfz30_0 := bf BK598 0; have hfz30_1 := bf BK598 1))
   refine bodyPost_ret (results_ct rfl _ _ gb598 26 #[.int .i64 0, .slice none 0 0] (0, 0) _ rfl (by (repeat refine up1 ?_); refine blk_put (cs := #[.int .i64 0, .slice none 0 0]) ?_ 1 _ rfl; (repeat refine up1 ?_); refine blk_put (cs := #[.int .i64 0, .slice none 0 0]) ?_ 0 _ rfl; (repeat refine up1 ?_); exact BK598.out) Try.underlying26 rfl (by kernel_rfl)) rfl ?_
   exact ⟨_, by first | rfl | (simp [errW_none, errW_some] <;> rfl) | (simp [*, errW_none, errW_some] <;> rfl), by first | exact Kd.R_nil _ _ _ _ _ | exact Kd.N_nil _ _ _ _ _ | exact Kd.V_nil _ _ _ _ _ | exact Kd.Q_nil _ _ _ _ _ | exact Kd.S_nil _ _ _ _ _, uH HB.out⟩
 ·replace c4 := Bool.eq_false_iff.mpr c4
  subst c4
  have H1 : (some (0, ([] : List Int), 1)) = some (r1, r2, r3) := by rw [if_neg (show ¬ (false = true) by decide)] at H; exact H
  clear H
  have H := H1
  clear H1
  simp only [Option.some.injEq, Prod.mk.injEq] at H
  obtain ⟨rfl, rfl, rfl⟩ := H
  go_enter Try.func20, Try.ntmps20
  go_wp2_with (first | ((with_reducible refine gate_dst (N := 2) rfl ?_); refine bx 2 #[.int .i64 a0_0, .slice A0_1 l0_1.length c0_1] 26 ?_; intro gb597 hg w31 hbox hb; have BK597 := zA (hbox); have GW597 := gq HB hg; have GE597 := gq HB hg; replace HB := xH HB hb; have := geI GE597; clear hb hbox hg) | ((with_reducible refine gate_dst (N := 4) rfl ?_); refine bx 4 #[.int .i64 0, .slice none 0 0] 26 ?_; intro gb598 hg w32 hbox hb; have BK598 := zA (hbox); have GW598 := gq HB hg; have GE598 := gq HB hg; replace HB := xH HB hb; have NB597_598 := zA ((by rw [hg]; exact neL BK597 : gb597 ≠ gb598)); have NB598_597 := zA ((by rw [hg]; exact neG BK597 : gb598 ≠ gb597)); replace BK597 := xB BK597 hb; have := geI GE598; clear hb hbox hg; have hnb33 := NB597_598.out; have hnc33 := NB598_597.out; have hcz34_0 := bc BK597 0; have hcz34_1 := bc BK597 1; have hfz34_0 := bf BK597 0; have hfz34_1 := bf BK597 1) | ((with_reducible refine gate_callee (f := 42) rfl ?_); refine gL (some 8) Try.func42 #[.agg #[.int .i64 a0_0, .slice A0_1 l0_1.length c0_1]] ?_; (with_reducible refine (spec_l02Are.calls k a0_0 _ _ l0_1 false _ ?side1 ?side2 A3.out).mono ?_); (case side1 => exact uC ((Kd.C_below HR0_1.out HB.out))); (case side2 => exact HC0_1.out); rintro e w35 ⟨rfl, hb⟩; refine ⟨_, rfl, ?_⟩; replace BK597 := xB BK597 hb; replace BK598 := xB BK598 hb; replace HB := xH HB hb; (try clear hb); (try clear hb2); (try clear hk); (try clear hi); have hcz36_0 := bc BK598 0; have hcz36_1 := bc BK598 1; have hfz36_0 := bf BK598 0; have hfz36_1 := bf BK598 1))
  refine bodyPost_ret (results_ct rfl _ _ gb598 26 #[.int .i64 0, .slice none 0 0] (0, 0) _ rfl (by (repeat refine up1 ?_); refine blk_put (cs := #[.int .i64 0, .slice none 0 0]) ?_ 1 _ rfl; (repeat refine up1 ?_); refine blk_put (cs := #[.int .i64 0, .slice none 0 0]) ?_ 0 _ rfl; (repeat refine up1 ?_); exact BK598.out) Try.underlying26 rfl (by kernel_rfl)) rfl ?_
  exact ⟨_, by first | rfl | (simp [errW_none, errW_some] <;> rfl) | (simp [*, errW_none, errW_some] <;> rfl), by first | exact Kd.R_nil _ _ _ _ _ | exact Kd.N_nil _ _ _ _ _ | exact Kd.V_nil _ _ _ _ _ | exact Kd.Q_nil _ _ _ _ _ | exact Kd.S_nil _ _ _ _ _, uH HB.out⟩
/-! ### spec_ShiftMoments: function 17 -/
def spec_ShiftMoments.f (k : Nat) (a0_0 : Int) (l0_1 : List Int) : Option (Int × List Int × Int) := (spec_l02Are.f k a0_0 l0_1).bind fun t565 => (if t565 = true then (if (l0_1.length : Int) = 1 then (some (0, ([] : List Int), 5)) else (if 1 ≤ (l0_1.length : Int) then ((spec_l01Own.f (l0_1.drop 1)).bind fun t567 => (some (a0_0, t567, 0))) else (none))) else (some (0, ([] : List Int), 1)))
def spec_ShiftMoments.T5 : Bool × List (List Nat × List Nat) := (true, [([], []), ([0], [0]), ([], []), ([2], [2]), ([3], [3]), ([4], [4]), ([1, 5], [1, 5]), ([6, 5, 0, 1, 2, 3, 4, 5, 6], [6]), ([7, 0, 1, 2, 3, 4, 5, 6, 7], [])])
def spec_ShiftMoments.B5 : List Nat := [0, 1, 0, 4, 12, 28, 63, 127, 255]
theorem spec_ShiftMoments.tab5 : rtab .any (opsOf Try.f17 5) = spec_ShiftMoments.T5 := by kernel_rfl
theorem spec_ShiftMoments.bits5 : waitsOk spec_ShiftMoments.T5.2 spec_ShiftMoments.B5 = true := by kernel_rfl
set_option maxHeartbeats 8000000 in
set_option maxRecDepth 100000 in
theorem spec_ShiftMoments.calls (k : Nat) (a0_0 : Int) (A0_1 : Option Addr) (c0_1 : Nat) (l0_1 : List Int) (r1 : Int) (r2 : List Int) (r3 : Int) (w : World) (hr0_1 : Kd.C (Kd.int .i64) w A0_1 l0_1.length l0_1) (hc0_1 : l0_1.length ≤ c0_1) (h : spec_ShiftMoments.f k a0_0 l0_1 = some (r1, r2, r3)) :
  Calls Try.prog 17 #[.agg #[.int .i64 a0_0, .slice A0_1 l0_1.length c0_1]] w fun e w' => ∃ v1_ : Value, e = .returned (.tuple #[.agg #[.int .i64 r1, v1_], .int .i64 r3]) ∧ Kd.R (Kd.int .i64) 2 w' w.heap.size (fun _ => True) v1_ r2 ∧ Below w.heap.size w w' := by
 have hu26 := Try.underlying26
 have HR0_1 := zA hr0_1
 have HC0_1 := zA hc0_1
 clear hr0_1 hc0_1
 have HB := zA (Below.refl w.heap.size w)
 have H : ((spec_l02Are.f k a0_0 l0_1).bind fun t565 => (if t565 = true then (if (l0_1.length : Int) = 1 then (some (0, ([] : List Int), 5)) else (if 1 ≤ (l0_1.length : Int) then ((spec_l01Own.f (l0_1.drop 1)).bind fun t567 => (some (a0_0, t567, 0))) else (none))) else (some (0, ([] : List Int), 1)))) = some (r1, r2, r3) := h
 clear h
 replace H := Option.bind_eq_some_iff.mp H
 obtain ⟨t565, A20, H⟩ := H
 replace H : (if t565 = true then (if (l0_1.length : Int) = 1 then (some (0, ([] : List Int), 5)) else (if 1 ≤ (l0_1.length : Int) then ((spec_l01Own.f (l0_1.drop 1)).bind fun t567 => (some (a0_0, t567, 0))) else (none))) else (some (0, ([] : List Int), 1))) = some (r1, r2, r3) := H
 have A2 := zA A20
 clear A20
 by_cases c3 : t565 = true
 ·subst c3
  have H1 : (if (l0_1.length : Int) = 1 then (some (0, ([] : List Int), 5)) else (if 1 ≤ (l0_1.length : Int) then ((spec_l01Own.f (l0_1.drop 1)).bind fun t567 => (some (a0_0, t567, 0))) else (none))) = some (r1, r2, r3) := by rw [if_pos rfl] at H; exact H
  clear H
  have H := H1
  clear H1
  by_cases c4 : (l0_1.length : Int) = 1
  rotate_left
  ·rw [if_neg c4] at H
   have c4b0 : ((l0_1.length : Int) == 1) = false := beq_eq_false_iff_ne.mpr c4
   have c4b1 : ((l0_1.length : Int) != 1) = true := bne_iff_ne.mpr c4
   by_cases c12 : 1 ≤ (l0_1.length : Int)
   rotate_left
   ·rw [if_neg c12] at H
    exact absurd H (by simp)
   rw [if_pos c12] at H
   have c12b0 := eq_true c12
   have c12b1 : decide (1 ≤ (l0_1.length : Int)) = true := decide_eq_true c12
   clear c12
   replace H := Option.bind_eq_some_iff.mp H
   obtain ⟨t567, A130, H⟩ := H
   replace H : (some (a0_0, t567, 0)) = some (r1, r2, r3) := H
   have A13 := zA A130
   clear A130
   simp only [Option.some.injEq, Prod.mk.injEq] at H
   obtain ⟨rfl, rfl, rfl⟩ := H
   go_enter Try.func17, Try.ntmps17
   try go_wp2_with (first | ((with_reducible refine gate_dst (N := 1) rfl ?_); refine bx 1 #[.int .i64 a0_0, .slice A0_1 l0_1.length c0_1] 26 ?_; intro gb563 hg w14 hbox hb; have BK563 := zA (hbox); have GW563 := gq HB hg; have GE563 := gq HB hg; replace HB := xH HB hb; have := geI GE563; clear hb hbox hg) | ((with_reducible refine gate_dst (N := 2) rfl ?_); refine bx 2 #[.int .i64 0, .slice none 0 0] 26 ?_; intro gb564 hg w15 hbox hb; have BK564 := zA (hbox); have GW564 := gq HB hg; have GE564 := gq HB hg; replace HB := xH HB hb; have NB563_564 := zA ((by rw [hg]; exact neL BK563 : gb563 ≠ gb564)); have NB564_563 := zA ((by rw [hg]; exact neG BK563 : gb564 ≠ gb563)); replace BK563 := xB BK563 hb; have := geI GE564; clear hb hbox hg; have hnb16 := NB563_564.out; have hnc16 := NB564_563.out; have hcz17_0 := bc BK563 0; have hcz17_1 := bc BK563 1; have hfz17_0 := bf BK563 0; have hfz17_1 := bf BK563 1) | ((with_reducible refine gate_callee (f := 42) rfl ?_); refine gL (some 6) Try.func42 #[.agg #[.int .i64 a0_0, .slice A0_1 l0_1.length c0_1]] ?_; (with_reducible refine (spec_l02Are.calls k a0_0 _ _ l0_1 true _ ?side1 ?side2 A2.out).mono ?_); (case side1 => exact uC ((Kd.C_below HR0_1.out HB.out))); (case side2 => exact HC0_1.out); rintro e w18 ⟨rfl, hb⟩; refine ⟨_, rfl, ?_⟩; replace BK563 := xB BK563 hb; replace BK564 := xB BK564 hb; replace HB := xH HB hb; (try clear hb); (try clear hb2); (try clear hk); (try clear hi); have hcz19_0 := bc BK563 0; have hcz19_1 := bc BK563 1; have hfz19_0 := bf BK563 0; have hfz19_1 := bf BK563 1))
   replace BK563 := zA (blk_drew BK563.out)
   replace BK564 := zA (blk_drew BK564.out)
   replace HB := zA (below_drew1 HB.out)
   obtain ⟨i021, hi021, _, hsz21, _⟩ := info_parts info2
   obtain ⟨A21, hcut21, hA21, hC21⟩ := print_drop_of (P := Try.prog) (Value.int .i64) 0 24 2 .i64 Try.underlying24 hi021 hsz21 A0_1 c0_1 l0_1 1 (by omega) (of_decide_eq_true (by first | (with_reducible assumption) | assumption)) HC0_1.out
   have HR566 := zA (Kd.C_of_reads (h1 := fun _ => rfl) (hA21 _ (Kd.reads_of_C HR0_1.out)))
   have HC566 := zA hC21
   clear hA21 hC21 hi021 hsz21
   refine start_ (n := 9) (S := fun w' => w'.cell? ⟨gb563, 0, none⟩ = some (.int .i64 a0_0) ∧ w'.cell? ⟨gb563, 1, none⟩ = some (.slice A0_1 l0_1.length c0_1)) (ds := []) #[false, false, false, false, false, false, false, false, false] (by kernel_rfl) rfl rfl ⟨bcu BK563 0, bcu BK563 1⟩ (fun hHeld => ?_); refine with_tabW spec_ShiftMoments.tab5 spec_ShiftMoments.bits5 (fun HT_ HW_ => ?_)
   generalize w18.drew = w20 at BK563 BK564 HB HR566 hHeld ⊢
   refine pu_ 0 15 (bl 9 1) HT_ ?_
   refine pu_ 2 17 (bl 9 5) HT_ ?_
   refine ta_ 1 16 (bl 9 7) HT_ HW_ hHeld ?_
   refine ta_ 3 18 (bl 9 15) HT_ HW_ hHeld ?_
   refine pu_ 4 19 (bl 9 31) HT_ ?_
   refine on_ 5 (some 20) (bl 9 63) HT_ (fun K hK => ?_)
   refine goes_ Try.func50 (by kernel_rfl) rfl #[.slice A21 (l0_1.drop 1).length (c0_1 - 1)] (by rfl) rfl rfl (by (try simp only [la, lb, lc]); first | done | (rw [show (l0_1.drop 1).length = (l0_1.length - 1) from List.length_drop] <;> rfl) | rfl | (simp only [ld, le]; rfl)) ?_
   with_reducible refine (spec_l01Own.calls _ _ (l0_1.drop 1) t567 _ ?side1 ?side2 A13.out).mono ?_
   (case side1 => exact uC ((Kd.C_below HR566.out HB.out)))
   (case side2 => exact HC566.out)
   rintro e w22 ⟨v568, rfl, ho0, hb⟩
   refine ⟨_, rfl, ?_⟩
   have HO569 := zA (Kd.R_lower ho0 (below_size (uH HB.out)))
   replace BK563 := xB BK563 hb
   replace BK564 := xB BK564 hb
   replace HB := xH HB hb
   (try clear hb); (try clear hb2); (try clear hk); (try clear hi); (try clear ho0)
   obtain ⟨Ao23, co23, eo23⟩ := Kd.R_slice HO569.out
   (first | subst eo23 | (injection eo23 with f1_ f2_ f3_; have f4_ := f1_.symm; have f5_ := f3_.symm; clear f1_ f2_ f3_; subst f4_; subst f5_))
   refine hK.out _ _ ⟨bcu BK563 0, bcu BK563 1⟩ (fun hHeld => ?_)
   clear hK K
   refine no_ 20 ?_
   refine pu_ 6 21 (bl 9 127) HT_ ?_
   refine on_ 7 (none) (bl 9 255) HT_ (fun K hK => ?_)
   have hs24 : w22.cell? ⟨gb564, 0, none⟩ = some (.int .i64 0) := (blk_cell BK564.out 0).trans rfl
   have hfs24 := bf BK564 0
   have hns24_0 := NB563_564.out; have hms24_0 := NB564_563.out
   have hs25 : w22.cell? ⟨gb564, 1, none⟩ = some (.slice none 0 0) := (blk_cell BK564.out 1).trans rfl
   have hfs25 := bf BK564 1
   have hns25_0 := NB563_564.out; have hms25_0 := NB564_563.out
   refine skip_ (w1 := ?_) (by rfl) rfl ?_ ?_
   rotate_left
   ·go_simp
    rfl
   refine hK.out _ _ ⟨((cell_far (p := ⟨gb564, _, none⟩) NB563_564.out _).trans (((cell_far (p := ⟨gb564, _, none⟩) NB563_564.out _).trans (hHeld.1)))), ((cell_far (p := ⟨gb564, _, none⟩) NB563_564.out _).trans (((cell_far (p := ⟨gb564, _, none⟩) NB563_564.out _).trans (hHeld.2))))⟩ (fun hHeld => ?_)
   clear hK K
   refine pu_ 8 3 (bl 9 511) HT_ ?_
   refine done_ (done_of HT_.out (by kernel_rfl)) ?_
   try go_wp2
   refine bodyPost_ret (results_ct rfl _ _ gb564 26 #[.int .i64 a0_0, .slice Ao23 t567.length co23] (0, 0) _ rfl (by (repeat refine up1 ?_); refine blk_put (cs := #[.int .i64 a0_0, .slice none 0 0]) ?_ 1 _ rfl; (repeat refine up1 ?_); refine blk_put (cs := #[.int .i64 0, .slice none 0 0]) ?_ 0 _ rfl; (repeat refine up1 ?_); exact BK564.out) Try.underlying26 rfl (by kernel_rfl)) rfl ?_
   exact ⟨_, by first | rfl | (simp [errW_none, errW_some] <;> rfl) | (simp [*, errW_none, errW_some] <;> rfl), uR (Kd.R_mono (Kd.R_far (p := ⟨gb564, 1, none⟩) (Kd.R_far (p := ⟨gb564, 0, none⟩) (Kd.R_types HO569.out BK564.out (by decide)) (fun _ hk => hk.2) (.int .i64 a0_0)) (fun _ hk => hk.2) (.slice Ao23 t567.length co23)) (fun _ hk => trivial)), uH HB.out⟩
  rw [if_pos c4] at H
  have c4b0 : ((l0_1.length : Int) == 1) = true := beq_iff_eq.mpr c4
  have c4b1 : ((l0_1.length : Int) != 1) = false := bne_eq_false_iff_eq.mpr c4
  clear c4
  simp only [Option.some.injEq, Prod.mk.injEq] at H
  obtain ⟨rfl, rfl, rfl⟩ := H
  go_enter Try.func17, Try.ntmps17
  go_wp2_with (first | ((with_reducible refine gate_dst (N := 1) rfl ?_); refine bx 1 #[.int .i64 a0_0, .slice A0_1 l0_1.length c0_1] 26 ?_; intro gb563 hg w5 hbox hb; have BK563 := zA (hbox); have GW563 := gq HB hg; have GE563 := gq HB hg; replace HB := xH HB hb; have := geI GE563; clear hb hbox hg) | ((with_reducible refine gate_dst (N := 2) rfl ?_); refine bx 2 #[.int .i64 0, .slice none 0 0] 26 ?_; intro gb564 hg w6 hbox hb; have BK564 := zA (hbox); have GW564 := gq HB hg; have GE564 := gq HB hg; replace HB := xH HB hb; have NB563_564 := zA ((by rw [hg]; exact neL BK563 : gb563 ≠ gb564)); have NB564_563 := zA ((by rw [hg]; exact neG BK563 : gb564 ≠ gb563)); replace BK563 := xB BK563 hb; have := geI GE564; clear hb hbox hg; have hnb7 := NB563_564.out; have hnc7 := NB564_563.out; have hcz8_0 := bc BK563 0; have hcz8_1 := bc BK563 1; have hfz8_0 := bf BK563 0; have hfz8_1 := bf BK563 1) | ((with_reducible refine gate_callee (f := 42) rfl ?_); refine gL (some 6) Try.func42 #[.agg #[.int .i64 a0_0, .slice A0_1 l0_1.length c0_1]] ?_; (with_reducible refine (spec_l02Are.calls k a0_0 _ _ l0_1 true _ ?side1 ?side2 A2.out).mono ?_); (case side1 => exact uC ((Kd.C_below HR0_1.out HB.out))); (case side2 => exact HC0_1.out); rintro e w9 ⟨rfl, hb⟩; refine ⟨_, rfl, ?_⟩; replace BK563 := xB BK563 hb; replace BK564 := xB BK564 hb; replace HB := xH HB hb; (try clear hb); (try clear hb2); (try clear hk); (try clear hi); have hcz10_0 := bc BK563 0; have hcz10_1 := bc BK563 1; have hfz10_0 := bf BK563 0; have hfz10_1 := bf BK563 1; have hcz11_0 := bc BK564 0; have hcz11_1 := bc BK564 1; have hfz11_0 := bf BK564 0; have hfz11_1 := bf BK564 1))
  refine bodyPost_ret (results_ct rfl _ _ gb564 26 #[.int .i64 0, .slice none 0 0] (0, 0) _ rfl (by (repeat refine up1 ?_); refine blk_put (cs := #[.int .i64 0, .slice none 0 0]) ?_ 1 _ rfl; (repeat refine up1 ?_); refine blk_put (cs := #[.int .i64 0, .slice none 0 0]) ?_ 0 _ rfl; (repeat refine up1 ?_); exact BK564.out) Try.underlying26 rfl (by kernel_rfl)) rfl ?_
  exact ⟨_, by first | rfl | (simp [errW_none, errW_some] <;> rfl) | (simp [*, errW_none, errW_some] <;> rfl), by first | exact Kd.R_nil _ _ _ _ _ | exact Kd.N_nil _ _ _ _ _ | exact Kd.V_nil _ _ _ _ _ | exact Kd.Q_nil _ _ _ _ _ | exact Kd.S_nil _ _ _ _ _, uH HB.out⟩
 ·replace c3 := Bool.eq_false_iff.mpr c3
  subst c3
  have H1 : (some (0, ([] : List Int), 1)) = some (r1, r2, r3) := by rw [if_neg (show ¬ (false = true) by decide)] at H; exact H
  clear H
  have H := H1
  clear H1
  simp only [Option.some.injEq, Prod.mk.injEq] at H
  obtain ⟨rfl, rfl, rfl⟩ := H
  go_enter Try.func17, Try.ntmps17
  go_wp2_with (first | ((with_reducible refine gate_dst (N := 1) rfl ?_); refine bx 1 #[.int .i64 a0_0, .slice A0_1 l0_1.length c0_1] 26 ?_; intro gb563 hg w26 hbox hb; have BK563 := zA (hbox); have GW563 := gq HB hg; have GE563 := gq HB hg; replace HB := xH HB hb; have := geI GE563; clear hb hbox hg) | ((with_reducible refine gate_dst (N := 2) rfl ?_); refine bx 2 #[.int .i64 0, .slice none 0 0] 26 ?_; intro gb564 hg w27 hbox hb; have BK564 := zA (hbox); have GW564 := gq HB hg; have GE564 := gq HB hg; replace HB := xH HB hb; have NB563_564 := zA ((by rw [hg]; exact neL BK563 : gb563 ≠ gb564)); have NB564_563 := zA ((by rw [hg]; exact neG BK563 : gb564 ≠ gb563)); replace BK563 := xB BK563 hb; have := geI GE564; clear hb hbox hg; have hnb28 := NB563_564.out; have hnc28 := NB564_563.out; have hcz29_0 := bc BK563 0; have hcz29_1 := bc BK563 1; have hfz29_0 := bf BK563 0; have hfz29_1 := bf BK563 1) | ((with_reducible refine gate_callee (f := 42) rfl ?_); refine gL (some 6) Try.func42 #[.agg #[.int .i64 a0_0, .slice A0_1 l0_1.length c0_1]] ?_; (with_reducible refine (spec_l02Are.calls k a0_0 _ _ l0_1 false _ ?side1 ?side2 A2.out).mono ?_); (case side1 => exact uC ((Kd.C_below HR0_1.out HB.out))); (case side2 => exact HC0_1.out); rintro e w30 ⟨rfl, hb⟩; refine ⟨_, rfl, ?_⟩; replace BK563 := xB BK563 hb; replace BK564 := xB BK564 hb; replace HB := xH HB hb; (try clear hb); (try clear hb2); (try clear hk); (try clear hi); have hcz31_0 := bc BK564 0; have hcz31_1 := bc BK564 1; have hfz31_0 := bf BK564 0; have hfz31_1 := bf BK564 1))
  refine bodyPost_ret (results_ct rfl _ _ gb564 26 #[.int .i64 0, .slice none 0 0] (0, 0) _ rfl (by (repeat refine up1 ?_); refine blk_put (cs := #[.int .i64 0, .slice none 0 0]) ?_ 1 _ rfl; (repeat refine up1 ?_); refine blk_put (cs := #[.int .i64 0, .slice none 0 0]) ?_ 0 _ rfl; (repeat refine up1 ?_); exact BK564.out) Try.underlying26 rfl (by kernel_rfl)) rfl ?_
  exact ⟨_, by first | rfl | (simp [errW_none, errW_some] <;> rfl) | (simp [*, errW_none, errW_some] <;> rfl), by first | exact Kd.R_nil _ _ _ _ _ | exact Kd.N_nil _ _ _ _ _ | exact Kd.V_nil _ _ _ _ _ | exact Kd.Q_nil _ _ _ _ _ | exact Kd.S_nil _ _ _ _ _, uH HB.out⟩
end Go.Proofs.Ytnpepkpogohcmaa.Pr
