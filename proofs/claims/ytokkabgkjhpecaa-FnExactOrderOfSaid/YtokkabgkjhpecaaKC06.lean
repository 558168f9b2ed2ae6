/- Texts of this session in one: what functions of the program compute, and plain facts of it, under the conditions that each theorem names. -/
import Derived.Test.YtokkabgkjhpecaaKC01
import Derived.Test.YtokkabgkjhpecaaKC03
import Derived.Test.YtokkabgkjhpecaaKC05
namespace Go.Proofs.Ytokkabgkjhpecaa.Pr
/- The reference's determinant: for own square rows of numbers modulo p it computes detV. -/
open Go Go.RowKit Go.Proofs.YtokkabgkjhpecaaW.PrintWords Go.Proofs.YtokkabgkjhpecaaW.PrintLast Go.Proofs.YtokkabgkjhpecaaW.PrintMore
set_option linter.unusedVariables false
set_option linter.unusedSimpArgs false
def spec_l02Det.f (_k : Nat) (a0 : Int) (l1 : List (List Int)) : Option Int := if sqrB a0 l1 then some (detV a0 l1) else none
theorem spec_l02Det.mono : ∀ a0 a1 k, LeO (spec_l02Det.f k a0 a1) (spec_l02Det.f (k + 1) a0 a1) := fun _ _ _ => LeO.refl _
def spec_l02Det.T24 : Bool × List (List Nat × List Nat) := (true, [([], []), ([], []), ([], []), ([], []), ([2, 3], [2, 3]), ([4], [4]), ([], []), ([5, 6], [5, 6]), ([7], [7]), ([], []), ([], []), ([], []), ([10, 11], [10, 11]), ([12], [12]), ([9, 13], [9, 13]), ([8, 14], [8, 14]), ([1, 15], [1, 15]), ([16], [16]), ([0, 17, 16], [0, 17]), ([18, 18, 0, 1, 2, 3, 4, 5, 6, 7, 8, 9, 10, 11, 12, 13, 14, 15, 16, 17, 18], [0, 18])])
def spec_l02Det.B24 : List Nat := [0, 0, 0, 0, 12, 28, 0, 124, 252, 0, 0, 0, 3072, 7168, 15872, 32764, 65534, 131070, 262143, 524287]
theorem spec_l02Det.tab24 : rtab .any (opsOf Try.f144 24) = spec_l02Det.T24 := by kernel_rfl
theorem spec_l02Det.bits24 : waitsOk spec_l02Det.T24.2 spec_l02Det.B24 = true := by kernel_rfl

set_option maxHeartbeats 8000000 in
set_option maxRecDepth 100000 in
theorem spec_l02Det.calls (k : Nat) (a0 : Int) (v1 : Value) (l1 : List (List Int)) (r : Int) (w W : World) (ok : Nat → Prop) (hB : Below w.heap.size w W) (hR : Kd.R (Kd.slice 2 (Kd.int .i64)) 22 W w.heap.size ok v1 l1) (h : spec_l02Det.f k a0 l1 = some r) :
    Calls Try.prog 144 #[.int .i64 a0, v1] W fun e w' => e = .returned (.int .i64 r) ∧ Below w.heap.size w w' := by
  unfold spec_l02Det.f at h
  split at h
  case isFalse => cases h
  rename_i c2
  have HD := Aside0.mk (Option.some.inj h)
  clear h
  obtain ⟨⟨hp2, hpt⟩, hn, hrows⟩ := c2
  have HP := Aside0.mk (Pm.mk hp2 hpt)
  have HN := Aside0.mk hn
  have HROWS := Aside0.mk hrows
  have HB := Aside0.mk hB
  clear hp2 hpt hn hB
  have HMK : Aside0 (Try.prog.underlying 22 = some (.slice 2)) := ⟨Try.underlying22⟩
  have HIN : Aside0 ((Try.prog.info? 2).map (fun i => (i.zero, i.size, i.bytes)) = some (some (.int .i64 0), 1, 8)) := ⟨by kernel_rfl⟩
  by_cases h0 : 0 < l1.length
  case neg =>
    obtain rfl : l1 = [] := List.length_eq_zero_iff.1 (by omega)
    obtain ⟨A, c, rfl⟩ := Kd.R_slice hR
    clear hR hrows h0
    have e : (1 : Int) = r := HD.out
    subst e
    go_enter Try.func144, Try.ntmps144
    go_wp2
    go_loopg [5, 7] 1 (fun kq v5 v7 w' => v5 = .int .i64 1 ∧ v7 = .int .i64 0 ∧ Aside0 (Below w.heap.size w w'))
    case atStart => exact ⟨rfl, rfl, ⟨uH HB.out⟩⟩
    case round =>
      clear HB
      obtain ⟨rfl, rfl, HB⟩ := hrel
      have c1 : decide ((0 : Int) < 0) = false := rfl
      go_wp2
      go_ret
      exact ⟨rfl, uH HB.out⟩
  case pos =>
    obtain ⟨g, cap, rfl, hM⟩ := ms_of hR h0 (fun x hx => (hrows x hx).1)
    have HM := Aside0.mk hM
    have H0 := Aside0.mk h0
    clear hM hR hrows h0
    go_enter Try.func144, Try.ntmps144
    go_wp2
    go_loopg [5, 7] (l1.length + 1) (fun kq v5 v7 w' => ∃ (c : Nat) (o : Int) (M : Nat → List Int), v5 = .int .i64 o ∧ v7 = .int .i64 (c : Int) ∧ Aside0 (kq + c = l1.length + 1 ∧ c ≤ l1.length) ∧ Aside0 ((0 ≤ o ∧ o < a0) ∧ ∀ i, i < l1.length → Nm a0 (M i)) ∧ Aside0 (detGo a0 l1.length (l1.length - c) c M o = r) ∧ Aside0 (Ms 22 2 w' w.heap.size g l1.length (M)) ∧ Aside0 (Below w.heap.size w w'))
    case atStart => exact ⟨0, 1, _, rfl, rfl, ⟨by omega, by omega⟩, ⟨⟨by omega, by have := HP.out.two; omega⟩, fun i hi => (HROWS.out _ (getD_mem hi)).2⟩, HD, ⟨HM.out.below (by repeat (first | exact Below.refl _ _ | apply below_drew1 | apply pw_below_drewN))⟩, ⟨uH HB.out⟩⟩
    case round =>
      clear HM HB HD
      obtain ⟨c, o, M, rfl, rfl, HC, HO, HG, HM, HB⟩ := hrel
      by_cases cc : c < l1.length
      case neg =>
        obtain rfl : c = l1.length := by have := HC.out; omega
        have c1 : decide ((l1.length : Int) < (l1.length : Int)) = false := decide_eq_false (by omega)
        have e : o = r := by have := HG.out; rw [Nat.sub_self, detGo] at this; exact this
        subst e
        go_wp2
        go_ret
        exact ⟨rfl, uH HB.out⟩
      case pos =>
        have c1 : decide ((c : Int) < (l1.length : Int)) = true := decide_eq_true (by omega)
        have CC := Aside0.mk cc
        obtain ⟨P, hP⟩ : ∃ P, pivot M c (l1.length - c) c = P := ⟨_, rfl⟩
        have HPE := Aside0.mk hP
        clear hP
        go_wp2
        clear cc c1
        go_loopg [8] (l1.length + 1 - c) (fun kq v8 w' => ∃ s : Nat, v8 = .int .i64 (s : Int) ∧ Aside0 (kq + s = l1.length + 1 ∧ c ≤ s ∧ s ≤ l1.length) ∧ Aside0 (pivot M c (l1.length - s) s = P) ∧ Aside0 (Ms 22 2 w' w.heap.size g l1.length (M)) ∧ Aside0 (Below w.heap.size w w'))
        case atStart => exact ⟨c, rfl, ⟨by have := CC.out; omega, by omega, by have := CC.out; omega⟩, HPE, ⟨HM.out.below (by repeat (first | exact Below.refl _ _ | apply below_drew1 | apply pw_below_drewN))⟩, ⟨uH HB.out⟩⟩
        case round =>
          clear HM HB
          obtain ⟨s, rfl, HS, HPS, HM, HB⟩ := hrel
          by_cases cs : s < l1.length
          case neg =>
            obtain rfl : s = l1.length := by have := HS.out; omega
            have c1 : decide ((l1.length : Int) < (l1.length : Int)) = false := decide_eq_false (by omega)
            have hP : P = l1.length := by have := HPS.out; rw [Nat.sub_self, pivot] at this; exact this.symm
            have e : (0 : Int) = r := by
              have h := HG.out
              rw [show l1.length - c = (l1.length - c - 1) + 1 from by have := CC.out; omega, detGo, if_pos (by rw [HPE.out, hP])] at h
              exact h
            subst e
            clear hP
            go_wp2
            go_ret
            exact ⟨rfl, uH HB.out⟩
          case pos =>
            have c1 : decide ((s : Int) < (l1.length : Int)) = true := decide_eq_true (by omega)
            obtain ⟨q, cq, hx, hrow⟩ := HM.out.get cs
            have HROW := Aside0.mk hrow
            obtain ⟨y0, hy0⟩ : ∃ y0, (M s).getD c 0 = y0 := ⟨_, rfl⟩
            have hcell := hrow.cell CC.out
            rw [hy0] at hcell
            have CS := Aside0.mk cs
            have HY := Aside0.mk hy0
            clear hrow hy0
            have q0 : (0 ≤ (s : Int)) = True := eq_true (by omega)
            have q1 : ((s : Int) < (l1.length : Int)) = True := eq_true (by omega)
            have q2 : (0 ≤ (c : Int)) = True := eq_true (by omega)
            have q3 : ((c : Int) < (l1.length : Int)) = True := eq_true (by have := CC.out; omega)
            by_cases hy : y0 = 0
            case pos =>
              subst hy
              have e0 : ((0 : Int) == 0) = true := rfl
              go_wp2
              go_roundg (l1.length - s)
              case measure => have := HS.out; have := CS.out; omega
              case rel =>
                refine ⟨s + 1, by rw [wsucc CS.out (by have := HN.out; omega)], ⟨by have := HS.out; have := CS.out; omega, by have := HS.out; omega, CS.out⟩, ⟨?_⟩, ⟨HM.out.below (by repeat (first | exact Below.refl _ _ | apply below_drew1 | apply pw_below_drewN))⟩, ⟨uH HB.out⟩⟩
                have h := HPS.out
                rw [show l1.length - s = (l1.length - (s + 1)) + 1 from by have := CS.out; omega, pivot, if_pos HY.out] at h
                exact h
            case neg =>
              have e0 : (y0 == 0) = false := beq_eq_false_iff_ne.mpr hy
              have hP : P = s := by
                have h := HPS.out
                rw [show l1.length - s = (l1.length - (s + 1)) + 1 from by have := CS.out; omega, pivot, if_neg (by rw [HY.out]; exact hy)] at h
                exact h.symm
              subst hP
              have hG : detGo a0 l1.length (l1.length - (c + 1)) (c + 1) (stepM a0 (invF a0 ((M P).getD c 0)) l1.length c (swapM M c P)) ((if P = c then o else (-o) % a0) * (M P).getD c 0 % a0) = r := by
                have h := HG.out
                rw [show l1.length - c = (l1.length - c - 1) + 1 from by have := CC.out; omega, detGo, if_neg (by rw [HPE.out]; have := CS.out; omega), HPE.out] at h
                rw [show l1.length - (c + 1) = l1.length - c - 1 from by omega]
                exact h
              clear HG HPE HPS
              have HG := Aside0.mk hG
              have hsn : ((P : Int) == (l1.length : Int)) = false := beq_eq_false_iff_ne.mpr (by omega)
              clear hG
              go_upto_if 47 with (fail)
              clear e0 hsn q0 q1 q2 q3 c1
              go_cut [5] (fun v5 wc => v5 = .int .i64 (if P = c then o else (-o) % a0) ∧ Aside0 (Ms 22 2 wc w.heap.size g l1.length (swapM M c P)) ∧ Aside0 (Row 2 wc w.heap.size q l1.length (M P)) ∧ Aside0 (Below w.heap.size w wc))
              case first =>
                clear hx hcell
                by_cases hpc : P = c
                case pos =>
                  have e1 : ((P : Int) != (c : Int)) = false := bne_eq_false_iff_eq.mpr (by rw [hpc])
                  have e2 : ((P : Int) == (c : Int)) = true := beq_iff_eq.mpr (by rw [hpc])
                  have hpi : (P : Int) = (c : Int) := by rw [hpc]
                  go_wp2
                  go_meet
                  case rel =>
                    have e : swapM M c P = M := funext fun i => by
                      unfold swapM
                      by_cases hi : i = c
                      · rw [if_pos hi, hpc, hi]
                      · rw [if_neg hi, if_neg (by rw [hpc]; exact hi)]
                    exact ⟨by rw [if_pos hpc], ⟨by rw [e]; exact HM.out.below (by repeat (first | exact Below.refl _ _ | apply below_drew1 | apply pw_below_drewN))⟩, ⟨HROW.out.below (by repeat (first | exact Below.refl _ _ | apply below_drew1 | apply pw_below_drewN))⟩, ⟨uH HB.out⟩⟩
                case neg =>
                  have e1 : ((P : Int) != (c : Int)) = true := bne_iff_ne.mpr (by omega)
                  have e2 : ((P : Int) == (c : Int)) = false := beq_eq_false_iff_ne.mpr (by omega)
                  have hpi : ¬ (P : Int) = (c : Int) := by omega
                  obtain ⟨qc, kc, hxc, hrowc⟩ := HM.out.get CC.out
                  have HROWC := Aside0.mk hrowc
                  obtain ⟨qp, kp, hxp, _⟩ := HM.out.get CS.out
                  have hfp := HM.out.frozen P
                  clear hrowc
                  have q0 : (0 ≤ (P : Int)) = True := eq_true (by omega)
                  have q1 : ((P : Int) < (l1.length : Int)) = True := eq_true (by omega)
                  have q2 : (0 ≤ (c : Int)) = True := eq_true (by omega)
                  have q3 : ((c : Int) < (l1.length : Int)) = True := eq_true (by have := CC.out; omega)
                  go_wp2_with (first | ((with_reducible refine gate_store (t := 22) (p := 54) rfl ?_); refine store_event (t := 22) (p := 54) (v := ?vo) (w1 := (wr.setCell ⟨g, P, none⟩ (.slice (some ⟨qc, 0, none⟩) l1.length kc))) ?hg ?ho ?hn ?hr ?_; (case ho => rfl); (case hg => rfl); (case hn => rfl); (case hr => first | (go_simp; done) | (go_simp; rfl)); intro w2 hw; have n0_ := Aside0.mk (HM.out.set (c := kc) (by decide) CS.out HROWC.out); have n1_ := Aside0.mk (HM.out.far (by decide) HROW.out P (.slice (some ⟨qc, 0, none⟩) l1.length kc)); have n2_ := Aside0.mk (below_set (j := P) (v := .slice (some ⟨qc, 0, none⟩) l1.length kc) HB.out HM.out.bg); rw [← hw] at n0_ n1_ n2_; clear HM HB HROW hw hxc hxp hfp HROWC; have HM := n0_; have HROW := n1_; have HB := n2_; clear n0_ n1_ n2_; obtain ⟨qd, kd, hxd, _⟩ := HM.out.get CC.out; have hfc := HM.out.frozen c) | ((with_reducible refine gate_callee (f := 60) rfl ?_); refine gL (some 62) Try.func60 #[.int .i64 a0, .int .i64 (wrap64 (-o))] ?_; refine (smod_calls HP.out (y := (-o) % a0) ?wv _).mono ?_; (case wv => have := HO.out; have := HP.out.top; rw [wrap_id (by omega) (by omega)]); rintro e w' ⟨rfl, ⟨nd, rfl⟩⟩; refine ⟨_, rfl, ?_⟩))
                  go_meet
                  case rel =>
                    have n0_ := (HM.out.set (c := cq) (by decide) CC.out HROW.out).congr (M' := swapM M c P) (fun i _ => rfl)
                    have n1_ := HM.out.far (by decide) HROW.out c (.slice (some ⟨q, 0, none⟩) l1.length cq)
                    have n2_ := below_set (j := c) (v := .slice (some ⟨q, 0, none⟩) l1.length cq) HB.out HM.out.bg
                    exact ⟨by rw [if_neg hpc], ⟨n0_.below (by repeat (first | exact Below.refl _ _ | apply below_drew1 | apply pw_below_drewN))⟩, ⟨n1_.below (by repeat (first | exact Below.refl _ _ | apply below_drew1 | apply pw_below_drewN))⟩, ⟨uH n2_⟩⟩
              case rest =>
                clear HM HB HROW hx hcell
                obtain ⟨rfl, HM, HROW, HB⟩ := hcut
                have hMc : swapM M c P c = M P := by unfold swapM; rw [if_pos rfl]
                have hNm : ∀ i, i < l1.length → Nm a0 (swapM M c P i) := fun i hi => by
                  unfold swapM
                  by_cases h1 : i = c
                  · rw [if_pos h1]; exact HO.out.2 _ CS.out
                  · by_cases h2 : i = P
                    · rw [if_neg h1, if_pos h2]; exact HO.out.2 _ CC.out
                    · rw [if_neg h1, if_neg h2]; exact HO.out.2 _ hi
                have hoB : 0 ≤ (if P = c then o else (-o) % a0) ∧ (if P = c then o else (-o) % a0) < a0 := by
                  by_cases h1 : P = c
                  · rw [if_pos h1]; exact HO.out.1
                  · rw [if_neg h1]; exact emodB HP.out.pos _
                have hG := HG.out
                have hR1 := HROW.out
                have hy1 := HY.out
                rw [← hMc] at hG hR1 hy1
                clear HG hMc HO HROW HY hy
                generalize swapM M c P = M1 at HM hNm hG hR1 hy1
                generalize (if P = c then o else (-o) % a0) = o1 at hoB hG ⊢
                have hy0B := (hNm c CC.out).getp HP.out.pos c
                rw [hy1] at hy0B hG
                obtain ⟨o2, ho2⟩ : ∃ o2, o1 * y0 % a0 = o2 := ⟨_, rfl⟩
                obtain ⟨iv, hiv⟩ : ∃ iv, invF a0 y0 = iv := ⟨_, rfl⟩
                have hivB := invF_in HP.out y0
                rw [hiv] at hivB
                rw [ho2, hiv] at hG
                have hm1 := mulP HP.out hoB.1 hoB.2 hy0B.1 hy0B.2
                have hmul : IntKind.i64.wrap (o1 * y0) = o1 * y0 := by rw [i64_w, wrap_id (by omega) (by omega)]
                have htm : Int.tmod (o1 * y0) a0 = o2 := by rw [tmod_pos hm1.1, ho2]
                have HOB2 : Aside0 (0 ≤ o2 ∧ o2 < a0) := ⟨by rw [← ho2]; exact emodB HP.out.pos _⟩
                have HG := Aside0.mk hG
                have HNM := Aside0.mk hNm
                have HROW := Aside0.mk hR1
                have HY := Aside0.mk hy1
                have HYB := Aside0.mk hy0B
                have HIV := Aside0.mk hiv
                have HIVB := Aside0.mk hivB
                have hcell : wc.cell? ⟨q, c, none⟩ = some (.int .i64 y0) := by rw [← hy1]; exact hR1.cell CC.out
                clear hG hNm hR1 hy1 hy0B hiv hivB hm1 ho2 hoB HS CS cs
                have hpz : (a0 == 0) = false := beq_eq_false_iff_ne.mpr HP.out.ne
                have hpz2 : ¬ a0 = 0 := HP.out.ne
                have q2 : (0 ≤ (c : Int)) = True := eq_true (by omega)
                have q3 : ((c : Int) < (l1.length : Int)) = True := eq_true (by have := CC.out; omega)
                have hadd : IntKind.i64.wrap ((c : Int) + 1) = ((c + 1 : Nat) : Int) := by rw [i64_w, wsucc CC.out (by have := HN.out; omega)]
                go_wp2_with (first | ((with_reducible refine gate_callee (f := 86) rfl ?_); refine gL (some 76) Try.func86 #[.int .i64 a0, .int .i64 y0] ?_; refine (sinv_calls HP.out HYB.out HIV.out _).mono ?_; rintro e w' ⟨rfl, ⟨nd, rfl⟩⟩; refine ⟨_, rfl, ?_⟩))
                have n0_ := Aside0.mk (HM.out.below (pw_below_drewN (Below.refl _ _) nd))
                have n1_ := Aside0.mk (HROW.out.below (pw_below_drewN (Below.refl _ _) nd))
                have n2_ := Aside0.mk (pw_below_drewN HB.out nd)
                clear HM HROW HB hcell hmul htm q2 q3 hadd
                have HM := n0_; have HROW := n1_; have HB := n2_
                clear n0_ n1_ n2_
                generalize wc.drewN nd = w4 at HM HROW HB ⊢
                obtain ⟨E, hE⟩ : ∃ E : Nat → List Int, E = fun i => elimRow a0 ((M1 i).getD c 0 * iv % a0) (M1 i) (M1 c) l1.length := ⟨_, rfl⟩
                have HE := Aside0.mk hE
                clear hE
                go_loopg [11] (l1.length - c) (fun kq v11 w' => ∃ s : Nat, v11 = .int .i64 (s : Int) ∧ Aside0 (kq + s = l1.length + 1 ∧ c < s ∧ s ≤ l1.length) ∧ Aside0 (Ms 22 2 w' w.heap.size g l1.length (fun t => if c < t ∧ t < s then E t else M1 t)) ∧ Aside0 (Row 2 w' w.heap.size q l1.length (M1 c)) ∧ Aside0 (Below w.heap.size w w'))
                case atStart =>
                  refine ⟨c + 1, rfl, ⟨by have := CC.out; omega, by omega, CC.out⟩, ⟨(HM.out.below (by repeat (first | exact Below.refl _ _ | apply below_drew1 | apply pw_below_drewN))).congr fun t _ => ?_⟩, ⟨HROW.out.below (by repeat (first | exact Below.refl _ _ | apply below_drew1 | apply pw_below_drewN))⟩, ⟨uH HB.out⟩⟩
                  rw [if_neg (by omega)]
                case round =>
                  clear HM HROW HB
                  obtain ⟨s, rfl, HS, HM, HROW, HB⟩ := hrel
                  by_cases cs : s < l1.length
                  case neg =>
                    obtain rfl : s = l1.length := by have := HS.out; omega
                    have c1 : decide ((l1.length : Int) < (l1.length : Int)) = false := decide_eq_false (by omega)
                    go_wp2
                    go_roundg (l1.length - c)
                    case measure => have := HC.out; have := CC.out; omega
                    case rel =>
                      refine ⟨c + 1, o2, stepM a0 iv l1.length c M1, rfl, by rw [wsucc CC.out (by have := HN.out; omega)], ⟨by have := HC.out; have := CC.out; omega, CC.out⟩, ⟨HOB2.out, fun t ht => ?_⟩, HG, ⟨(HM.out.below (by repeat (first | exact Below.refl _ _ | apply below_drew1 | apply pw_below_drewN))).congr fun t ht => ?_⟩, ⟨uH HB.out⟩⟩
                      · unfold stepM
                        by_cases h1 : c < t
                        · rw [if_pos h1]; exact elimRow_nm HP.out.pos _ _ _ _
                        · rw [if_neg h1]; exact HNM.out t ht
                      · unfold stepM
                        by_cases h1 : c < t
                        · rw [if_pos h1, if_pos (by omega), HE.out]
                        · rw [if_neg h1, if_neg (by omega)]
                  case pos =>
                    have CS := Aside0.mk cs
                    have c1 : decide ((s : Int) < (l1.length : Int)) = true := decide_eq_true (by omega)
                    obtain ⟨qs, ks, hx, hrow⟩ := HM.out.get cs
                    simp only [if_neg (show ¬ (c < s ∧ s < s) from by omega)] at hrow
                    obtain ⟨x0, hx0⟩ : ∃ x0, (M1 s).getD c 0 = x0 := ⟨_, rfl⟩
                    have hcell := hrow.cell CC.out
                    have hxB := (HNM.out s cs).getp HP.out.pos c
                    rw [hx0] at hcell hxB
                    obtain ⟨f, hf⟩ : ∃ f, x0 * iv % a0 = f := ⟨_, rfl⟩
                    have hm1 := mulP HP.out hxB.1 hxB.2 HIVB.out.1 HIVB.out.2
                    have hmul : IntKind.i64.wrap (x0 * iv) = x0 * iv := by rw [i64_w, wrap_id (by omega) (by omega)]
                    have htm : Int.tmod (x0 * iv) a0 = f := by rw [tmod_pos hm1.1, hf]
                    have HF : Aside0 (E s = elimRow a0 f (M1 s) (M1 c) l1.length) := ⟨by rw [HE.out, ← hf, ← hx0]⟩
                    have HFB : Aside0 (0 ≤ f ∧ f < a0) := ⟨by rw [← hf]; exact emodB HP.out.pos _⟩
                    have HRS := Aside0.mk hrow
                    clear hrow hx0 hxB hf hm1
                    have q0 : (0 ≤ (s : Int)) = True := eq_true (by omega)
                    have q1 : ((s : Int) < (l1.length : Int)) = True := eq_true (by omega)
                    have q2 : (0 ≤ (c : Int)) = True := eq_true (by omega)
                    have q3 : ((c : Int) < (l1.length : Int)) = True := eq_true (by have := CC.out; omega)
                    obtain ⟨W1, hW1⟩ : ∃ W1, W1 = wr := ⟨_, rfl⟩
                    subst hW1
                    go_wp2_with (first | ((with_reducible refine gate_dst (N := 95) rfl ?_); refine Kd.R_lit (Kd.int .i64) _ 2 ?hg (N := 95) ?hd (xs := ([] : List Int)) (inner := []) (ok := fun _ => True) (okp := fun _ => True) ?hr ?hp (fun _ hk => hk) trivial (Below.refl _ _) (Nat.le_refl _) (by simp) ?_; (case hd => rfl); (case hg => rfl); (case hr => first | (go_simp; done) | (go_simp; rfl)); (case hp => exact (Reps.none _ _)); intro v95 w5 ho hb hg_ hnew_; clear hg_ hnew_; have HN0 := Aside0.mk ho; have HB0 := Aside0.mk hb; clear ho hb))
                    clear hmul htm hcell q2 q3 c1 hpz hpz2
                    have HX := Aside0.mk hx
                    clear hx
                    go_loopg [13, 14] (l1.length + 1) (fun kq v13 v14 w' => ∃ (z13 : Value) (p : Nat), v13 = z13 ∧ v14 = .int .i64 (p : Int) ∧ Aside0 (kq + p = l1.length + 1 ∧ p ≤ l1.length) ∧ Aside0 (Kd.R (Kd.int .i64) 2 w' W1.heap.size (fun _ => True) z13 (elimRow a0 f (M1 s) (M1 c) p)) ∧ Aside0 (Below W1.heap.size W1 w'))
                    case atStart => exact ⟨_, 0, rfl, rfl, ⟨by omega, by omega⟩, ⟨uR HN0.out⟩, ⟨uH HB0.out⟩⟩
                    case round =>
                      clear HN0 HB0
                      obtain ⟨z13, p, hz13, rfl, HPP, HN0, HB0⟩ := hrel
                      rw [hz13]
                      clear hz13
                      by_cases cp : p < l1.length
                      case neg =>
                        obtain rfl : p = l1.length := by have := HPP.out; omega
                        have c1 : decide ((l1.length : Int) < (l1.length : Int)) = false := decide_eq_false (by omega)
                        obtain ⟨q2, k2, cur, rfl, hb2, hl2, hc2, hr2⟩ := row_open HN0.out (by rw [elimRow_len]; exact H0.out)
                        rw [elimRow_len] at hr2 hl2 ⊢
                        have n0_ := Aside0.mk (HM.out.below HB0.out)
                        have n1_ := Aside0.mk (HROW.out.below HB0.out)
                        have n2_ := xH HB HB0.out
                        have HR2 : Aside0 (Row 2 wr w.heap.size q2 l1.length (E s)) := ⟨Nat.le_trans (below_size HB.out) hb2, cur, hc2, by rw [HF.out]; exact hr2⟩
                        have hx2 := pw_cell_below HB0.out HX.out
                        clear HM HROW HB hb2 hl2 hc2 hr2 HN0
                        have HM := n0_; have HROW := n1_; have HB := n2_
                        clear n0_ n1_ n2_
                        have hfs := HM.out.frozen s
                        go_wp2
                        go_roundg (l1.length - s)
                        case measure => have := HS.out; have := CS.out; omega
                        case rel =>
                          have n0_ := (HM.out.set (c := k2) (by decide) CS.out HR2.out).congr (M' := fun t => if c < t ∧ t < s + 1 then E t else M1 t) (fun t ht => by
                            by_cases hts : t = s
                            · rw [if_pos hts, if_pos (by have := HS.out; omega), hts]
                            · rw [if_neg hts]
                              by_cases h2 : c < t ∧ t < s
                              · rw [if_pos h2, if_pos (by omega)]
                              · rw [if_neg h2, if_neg (by omega)])
                          have n1_ := HM.out.far (by decide) HROW.out s (.slice (some ⟨q2, 0, none⟩) l1.length k2)
                          have n2_ := below_set (j := s) (v := .slice (some ⟨q2, 0, none⟩) l1.length k2) HB.out HM.out.bg
                          exact ⟨s + 1, by rw [wsucc CS.out (by have := HN.out; omega)], ⟨by have := HS.out; have := CS.out; omega, by have := HS.out; omega, CS.out⟩, ⟨n0_.below (by repeat (first | exact Below.refl _ _ | apply below_drew1 | apply pw_below_drewN))⟩, ⟨n1_.below (by repeat (first | exact Below.refl _ _ | apply below_drew1 | apply pw_below_drewN))⟩, ⟨uH n2_⟩⟩
                      case pos =>
                        have CP := Aside0.mk cp
                        have c1 : decide ((p : Int) < (l1.length : Int)) = true := decide_eq_true (by omega)
                        obtain ⟨x1, hx1⟩ : ∃ x1, (M1 s).getD p 0 = x1 := ⟨_, rfl⟩
                        obtain ⟨y1, hy1⟩ : ∃ y1, (M1 c).getD p 0 = y1 := ⟨_, rfl⟩
                        have hA := HX.out
                        have hB1 := HRS.out.cell cp
                        have hC1 := HROW.out.cell cp
                        have hx1B := (HNM.out s CS.out).getp HP.out.pos p
                        have hy1B := (HNM.out c CC.out).getp HP.out.pos p
                        rw [hx1] at hB1 hx1B
                        rw [hy1] at hC1 hy1B
                        obtain ⟨z, hz⟩ : ∃ z, (x1 - f * y1) % a0 = z := ⟨_, rfl⟩
                        have HZ : Aside0 (elimRow a0 f (M1 s) (M1 c) (p + 1) = elimRow a0 f (M1 s) (M1 c) p ++ [z]) := ⟨by unfold elimRow; rw [List.range_succ, List.map_append, List.map_singleton, hx1, hy1, hz]⟩
                        have HZE := Aside0.mk hz
                        have HXB := Aside0.mk hx1B
                        have HYB1 := Aside0.mk hy1B
                        have HA := Aside0.mk hA
                        have HB1 := Aside0.mk hB1
                        have HC1 := Aside0.mk hC1
                        have HLEN := Aside0.mk (elimRow_len a0 f (M1 s) (M1 c) p)
                        clear hx1 hy1 hz hx1B hy1B hA hB1 hC1 cp
                        generalize elimRow a0 f (M1 s) (M1 c) p = L at HN0 HZ HLEN
                        have cp1 := CP.out
                        go_wp2
                        clear cp1
                        have q2 : (0 ≤ (p : Int)) = True := eq_true (by omega)
                        have q3 : ((p : Int) < (l1.length : Int)) = True := eq_true (by have := CP.out; omega)
                        have n0_ := Aside0.mk (Kd.R_drew HN0.out)
                        have n1_ := Aside0.mk (below_drew1 HB0.out)
                        clear HN0 HB0
                        have HN0 := n0_; have HB0 := n1_
                        clear n0_ n1_
                        refine start_ (n := 20) (S := fun w' => w'.cell? ⟨g, s, none⟩ = some (.slice (some ⟨qs, 0, none⟩) l1.length ks) ∧ w'.cell? ⟨qs, p, none⟩ = some (.int .i64 x1) ∧ w'.cell? ⟨q, p, none⟩ = some (.int .i64 y1)) (ds := []) (bl 20 0) (by kernel_rfl) rfl (by kernel_rfl) ⟨pw_cell_below HB0.out HA.out, pw_cell_below HB0.out HB1.out, pw_cell_below HB0.out HC1.out⟩ (fun hHeld => ?_)
                        refine with_tabW spec_l02Det.tab24 spec_l02Det.bits24 (fun HT_ HW_ => ?_)
                        generalize wr.drew = w6 at HN0 HB0 hHeld ⊢
                        refine pu_ 0 101 (bl 20 1) HT_ ?_
                        refine pu_ 1 102 (bl 20 3) HT_ ?_
                        refine pu_ 2 103 (bl 20 7) HT_ ?_
                        refine pu_ 3 104 (bl 20 15) HT_ ?_
                        refine pu_ 4 105 (bl 20 31) HT_ ?_
                        refine ta_ 5 106 (bl 20 63) HT_ HW_ hHeld ?_
                        refine pu_ 6 107 (bl 20 127) HT_ ?_
                        refine pu_ 7 108 (bl 20 255) HT_ ?_
                        refine ta_ 8 109 (bl 20 511) HT_ HW_ hHeld ?_
                        refine pu_ 9 110 (bl 20 1023) HT_ ?_
                        refine pu_ 10 111 (bl 20 2047) HT_ ?_
                        refine pu_ 11 112 (bl 20 4095) HT_ ?_
                        refine pu_ 12 113 (bl 20 8191) HT_ ?_
                        refine ta_ 13 114 (bl 20 16383) HT_ HW_ hHeld ?_
                        refine pu_ 14 115 (bl 20 32767) HT_ ?_
                        refine pu_ 15 116 (bl 20 65535) HT_ ?_
                        refine on_ 16 (some 117) (bl 20 131071) HT_ (fun K hK => ?_)
                        refine gS Try.func60 #[.int .i64 a0, .int .i64 (wrap64 (x1 - wrap64 (f * y1)))] ?_
                        refine (smod_calls HP.out (y := z) ?wv _).mono ?_
                        (case wv => have h1 := HXB.out; have h2 := HYB1.out; have h3 := mulP HP.out HFB.out.1 HFB.out.2 h2.1 h2.2; have h4 := HP.out.top; rw [wrap_id (x := f * y1) (by omega) (by omega), wrap_id (by omega) (by omega), HZE.out])
                        rintro e w' ⟨rfl, ⟨nd, rfl⟩⟩
                        refine ⟨_, rfl, ?_⟩
                        refine hK.out _ _ hHeld (fun hHeld => ?_)
                        clear hK K
                        refine no_ 117 ?_
                        have n0_ := Aside0.mk (Kd.R_drewN HN0.out nd)
                        have n1_ := Aside0.mk (pw_below_drewN HB0.out nd)
                        clear HN0 HB0
                        have HN0 := n0_; have HB0 := n1_
                        clear n0_ n1_
                        generalize w6.drewN nd = w7 at HN0 HB0 hHeld ⊢
                        refine on_ 17 (some 118) (bl 20 262143) HT_ (fun K hK => ?_)
                        refine value_ (w1 := ?_) (v := ?_) (by rfl) rfl ?_ ?_
                        rotate_left 2
                        · go_simp
                          constructor
                          · rfl
                          · rfl
                        refine hK.out _ _ ⟨pw_cell_below (below_alloc (Below.refl _ _) _) hHeld.1, pw_cell_below (below_alloc (Below.refl _ _) _) hHeld.2.1, pw_cell_below (below_alloc (Below.refl _ _) _) hHeld.2.2⟩ (fun hHeld => ?_)
                        clear hK K
                        refine no_ 118 ?_
                        refine on_ 18 (some 119) (bl 20 524287) HT_ (fun K hK => ?_)
                        refine Kd.R_append_step (Kd.int .i64) (w0 := W1) W1.heap.size (by rfl) (.tmp 101) (.tmp 118) 22 2 (.int .i64 0) 8 rfl HMK.out HIN.out rfl (by decide) (by omega) z13 L z [.int .i64 z] (fun _ => True) (fun _ => False) rfl rfl ?aP (fun _ hk => hk.elim) ?aF ?aO ?aB ?aS ?aL ?_
                        (case aP => exact rfl)
                        (case aB => exact (uH HB0.out))
                        (case aF => exact (fun _ _ => trivial))
                        (case aO => exact (uR HN0.out))
                        (case aS => exact (below_size (uH HB0.out)))
                        (case aL => have := HLEN.out; have := CP.out; have := HN.out; omega)
                        intro v119 w8 ho hb hg hat
                        rw [← HZ.out] at ho
                        have n0_ := Aside0.mk ho
                        have n1_ := Aside0.mk hb
                        clear HN0 HB0 ho hb hg hat
                        have HN0 := n0_; have HB0 := n1_
                        clear n0_ n1_
                        refine hK.out _ _ ⟨pw_cell_below HB0.out HA.out, pw_cell_below HB0.out HB1.out, pw_cell_below HB0.out HC1.out⟩ (fun hHeld => ?_)
                        clear hK K
                        refine no_ 119 ?_
                        refine pu_ 19 13 (bl 20 1048575) HT_ ?_
                        refine done_ (done_of HT_.out (by kernel_rfl)) ?_
                        clear hHeld q2 q3
                        go_wp2
                        go_roundg (l1.length - p)
                        case measure => have := HPP.out; have := CP.out; omega
                        case rel => exact ⟨_, p + 1, rfl, by rw [wsucc CP.out (by have := HN.out; omega)], ⟨by have := HPP.out; have := CP.out; omega, CP.out⟩, ⟨uR HN0.out⟩, ⟨uH HB0.out⟩⟩
/- The reference's Hankel determinant: printed by a program of this session; its last call by hand (the rows are handed over to what sets their slots). -/
open Go.RowKit Go.Proofs.YtokkabgkjhpecaaW.PrintWords Go.Proofs.YtokkabgkjhpecaaW.PrintLast Go.Proofs.YtokkabgkjhpecaaW.PrintMore
attribute [local go_sem] max2_int min2_int max_two min_two max_three min_three max_four min_four   -- for this text's walks alone
/-! ### spec_l02Hankel: function 112 -/
def spec_l02Hankel.l0 : Nat → Int → List (List Int) → Int → Int → List Int → Option (Int)
 | 0, _, _, _, _, _ => none
 | k + 1, x1, x5, x6, x134000, x134001 => if x6 < x1 then (if 0 ≤ x6 then (if x6 ≤ (wrap64 (x6 + x1)) then (if (wrap64 (x6 + x1)) ≤ (x134001.length : Int) then ((spec_l01Own.f ((x134001.take ((wrap64 (x6 + x1)) : Int).toNat).drop (x6 : Int).toNat)).bind fun t138 => (if x5.length < 5864062014805 then (spec_l02Hankel.l0 k x1 (x5 ++ [t138]) (wrap64 (x6 + 1)) x134000 x134001) else (none))) else (none)) else (none)) else (none)) else ((spec_l02Det.f k x134000 x5).bind fun t144 => (some t144))
def spec_l02Hankel.f (k : Nat) (a0_0 : Int) (l0_1 : List Int) (a1 : Int) : Option (Int) := spec_l02Hankel.l0 k a1 (([] : List (List Int))) 0 a0_0 l0_1
theorem spec_l02Hankel.mono_l : ∀ k, (∀ y0 y1 y2 y3 y4, LeO (spec_l02Hankel.l0 k y0 y1 y2 y3 y4) (spec_l02Hankel.l0 (k + 1) y0 y1 y2 y3 y4))
 | 0 => fun _ _ _ _ _ r h => by simp [spec_l02Hankel.l0] at h
 | k + 1 => by
  have ih0 := spec_l02Hankel.mono_l k
  ·intro y0 y1 y2 y3 y4
   unfold spec_l02Hankel.l0
   repeat' first
   | (with_reducible exact ih0 _ _ _ _ _)
   | (with_reducible exact spec_l02Det.mono _ _ _)
   | (with_reducible exact LeO.refl _)
   | (with_reducible exact LeO.none _)
   | (with_reducible refine LeO.ite ?_ ?_)
   | (with_reducible refine LeO.bind ?_ (fun _ => ?_))
   | exact ih0 _ _ _ _ _
   | exact spec_l02Det.mono _ _ _
   | exact LeO.none _
   | refine LeO.ite ?_ ?_
   | refine LeO.bind ?_ (fun _ => ?_)
theorem spec_l02Hankel.mono : ∀ a0 a1 a2 k, LeO (spec_l02Hankel.f k a0 a1 a2) (spec_l02Hankel.f (k + 1) a0 a1 a2) := by
 intro a0 a1 a2 k
 have ih0 := spec_l02Hankel.mono_l k
 unfold spec_l02Hankel.f
 repeat' first
   | (with_reducible exact ih0 _ _ _ _ _)
   | (with_reducible exact spec_l02Det.mono _ _ _)
   | (with_reducible exact LeO.refl _)
   | (with_reducible exact LeO.none _)
   | (with_reducible refine LeO.ite ?_ ?_)
   | (with_reducible refine LeO.bind ?_ (fun _ => ?_))
   | exact ih0 _ _ _ _ _
   | exact spec_l02Det.mono _ _ _
   | exact LeO.none _
   | refine LeO.ite ?_ ?_
   | refine LeO.bind ?_ (fun _ => ?_)
set_option maxHeartbeats 8000000 in
set_option maxRecDepth 100000 in
theorem spec_l02Hankel.calls (k : Nat) (a0_0 : Int) (A0_1 : Option Addr) (c0_1 : Nat) (l0_1 : List Int) (a1 : Int) (r : Int) (w : World) (hr0_1 : Kd.C (Kd.int .i64) w A0_1 l0_1.length l0_1) (hc0_1 : l0_1.length ≤ c0_1) (h : spec_l02Hankel.f k a0_0 l0_1 a1 = some r) :
  Calls Try.prog 112 #[.agg #[.int .i64 a0_0, .slice A0_1 l0_1.length c0_1], .int .i64 a1] w fun e w' => e = .returned (.int .i64 r) ∧ Below w.heap.size w w' := by
 have hu31 := Try.underlying31
 have HR0_1 := zA hr0_1
 have HC0_1 := zA hc0_1
 clear hr0_1 hc0_1
 have HB := zA (Below.refl w.heap.size w)
 have H : (spec_l02Hankel.l0 k a1 (([] : List (List Int))) 0 a0_0 l0_1) = some r := h
 clear h
 obtain ⟨y134, hy134⟩ : ∃ y_ : List (List Int), y_ = (([] : List (List Int))) := ⟨_, rfl⟩
 replace H : (spec_l02Hankel.l0 k a1 y134 0 a0_0 l0_1) = some r := by first | (rw [hy134]; with_reducible exact H) | (have H2_ := (Option.bind_some _ _).symm.trans H; rw [hy134]; with_reducible exact H2_) | (have H2_ := (Option.bind_some _ _).symm.trans H; with_reducible exact H2_) | with_reducible exact H | (rw [hy134]; exact H) | exact H
 have Ny134 := zA hy134
 clear hy134
 have H' := zA H
 clear H
 go_enter Try.func112, Try.ntmps112
 go_wp2_with (first | ((with_reducible refine gate_dst (N := 2) rfl ?_); refine box_event ?hg (N := 2) ?hd (cs := #[.int .i64 a0_0, .slice A0_1 l0_1.length c0_1]) (t := 31) ?hr ?_; (case hd => rfl); (case hg => rfl); (case hr => first | (go_simp; done) | (go_simp; rfl)); intro gb133 hg w3 hbox hb; have n0_ := xH HB hb; have n1_ := zA (hbox); have n2_ := zA ((by rw [hg]; exact (below_size (uH HB.out)) : w.heap.size ≤ gb133)); have n3_ := zA ((by rw [hg]; exact (below_size (uH HB.out)) : w.heap.size ≤ gb133)); clear HB; have HB := n0_; have BK133 := n1_; have GW133 := n2_; have GE133 := n3_; have := geI GE133; clear n0_ n1_ n2_ n3_ hb hbox hg) | ((with_reducible refine gate_dst (N := 7) rfl ?_); refine Kd.S_lit (Kd.slice 2 (Kd.int .i64)) _ 22 ?hg (N := 7) ?hd (xs := ([] : List (List Int))) (inner := []) (ok := fun _ => True) (okp := fun _ => True) ?hr ?hp (fun _ hk => hk) trivial (Below.refl _ _) (Nat.le_refl _) (by simp) ?_; (case hd => rfl); (case hg => rfl); (case hr => first | (go_simp; done) | (go_simp; rfl)); (case hp => exact (Reps.none _ _)); intro v135 w4 ho5 hb hg_ hnew_; clear hg_ hnew_; (first | rw [← Ny134.out] at ho5 | (simp only [Int.reduceToNat] at ho5; rw [← Ny134.out] at ho5)); have n0_ := zA (Kd.S_lower ho5 (below_size (uH HB.out))); have n1_ := xB BK133 hb; have n2_ := xH HB hb; clear BK133 HB; have HO136 := n0_; have BK133 := n1_; have HB := n2_; clear n0_ n1_ n2_ hb ho5))
 go_loopg [5, 6] k (fun kq v5 v6 w' => ∃ (x5_1 : List (List Int)) (x6_1 : Int), v6 = .int .i64 x6_1 ∧ Aside0 (spec_l02Hankel.l0 kq a1 x5_1 x6_1 a0_0 l0_1 = some r) ∧ Aside0 (kq ≤ k) ∧ Aside0 (Kd.S (Kd.slice 2 (Kd.int .i64)) 22 w' w.heap.size (fun _ => True) v5 x5_1) ∧ Aside0 (w'.heap[gb133]? = some (.cells #[.int .i64 a0_0, (.slice A0_1 l0_1.length c0_1)] 31 (0, 0))) ∧ Aside0 (Below w.heap.size w w'))
 case atStart => exact ⟨(y134), (0), (by first | rfl | (simp; done) | (simp [*]; done)), H', ⟨Nat.le_refl _⟩, ⟨by (with_reducible repeat (first | apply Kd.S_alloc | apply Kd.S_drewN | apply Kd.S_drew)); exact HO136.out⟩, ⟨uB BK133.out⟩, ⟨uH HB.out⟩⟩
 case round =>
  clear H'
  try clear c1
  try clear p2
  obtain ⟨x5_1, x6_1, rfl, HA, HK1, HO_5, BK133, HB⟩ := hrel
  cases gk with
  | zero => exact absurd HA.out (by simp [spec_l02Hankel.l0])
  | succ k1 =>
   have H := HA.out
   clear HA
   simp only [spec_l02Hankel.l0] at H
   by_cases c6 : x6_1 < a1
   ·rw [if_pos c6] at H
    have c6b0 : decide (x6_1 < a1) = true := decide_eq_true c6
    clear c6
    by_cases c7 : 0 ≤ x6_1
    ·rw [if_pos c7] at H
     have c7b0 := eq_true c7
     have c7b1 : decide (0 ≤ x6_1) = true := decide_eq_true c7
     clear c7
     by_cases c8 : x6_1 ≤ (wrap64 (x6_1 + a1))
     ·rw [if_pos c8] at H
      have c8b0 := eq_true c8
      have c8b1 : decide (x6_1 ≤ (wrap64 (x6_1 + a1))) = true := decide_eq_true c8
      by_cases c9 : (wrap64 (x6_1 + a1)) ≤ (l0_1.length : Int)
      ·rw [if_pos c9] at H
       have c9b0 := eq_true c9
       have c9b1 : decide ((wrap64 (x6_1 + a1)) ≤ (l0_1.length : Int)) = true := decide_eq_true c9
       replace H := Option.bind_eq_some_iff.mp H
       obtain ⟨t138, A100, H⟩ := H
       replace H : (if x5_1.length < 5864062014805 then (spec_l02Hankel.l0 k1 a1 (x5_1 ++ [t138]) (wrap64 (x6_1 + 1)) a0_0 l0_1) else (none)) = some r := H
       have A10 := zA A100
       clear A100
       by_cases c11 : x5_1.length < 5864062014805
       ·rw [if_pos c11] at H
        have LMc11 := zA c11
        clear c11
        obtain ⟨y141, hy141⟩ : ∃ y_ : List (List Int), y_ = (x5_1 ++ [t138]) := ⟨_, rfl⟩
        replace H : (spec_l02Hankel.l0 k1 a1 y141 (wrap64 (x6_1 + 1)) a0_0 l0_1) = some r := by first | (rw [hy141]; with_reducible exact H) | (have H2_ := (Option.bind_some _ _).symm.trans H; rw [hy141]; with_reducible exact H2_) | (have H2_ := (Option.bind_some _ _).symm.trans H; with_reducible exact H2_) | with_reducible exact H | (rw [hy141]; exact H) | exact H
        have Ny141 := zA hy141
        clear hy141
        have H' := zA H
        clear H
        have hcz12_0 : wr.cell? ⟨gb133, 0, none⟩ = some (.int .i64 a0_0) := (blk_cell BK133.out 0).trans rfl
        have hcz12_1 : wr.cell? ⟨gb133, 1, none⟩ = some (.slice A0_1 l0_1.length c0_1) := (blk_cell BK133.out 1).trans rfl
        have hfz12_0 := blk_frozen BK133.out 0
        have hfz12_1 := blk_frozen BK133.out 1
        obtain ⟨i013, hi013, _, hsz13, _⟩ := info_parts info2
        obtain ⟨A13, hcut13, hA13, hC13⟩ := print_mid_of (P := Try.prog) (Value.int .i64) 0 22 2 .i64 .i64 Try.underlying22 hi013 hsz13 A0_1 c0_1 l0_1 x6_1 (wrap64 (x6_1 + a1)) (of_decide_eq_true (by first | (with_reducible assumption) | assumption)) (by first | omega | exact of_decide_eq_true (by first | (with_reducible assumption) | assumption)) (of_decide_eq_true (by first | (with_reducible assumption) | assumption)) HC0_1.out
        have HR137 := zA (Kd.C_of_reads (h1 := fun _ => rfl) (hA13 _ (Kd.reads_of_C HR0_1.out)))
        have HC137 := zA hC13
        clear hA13 hC13 hi013 hsz13
        go_wp2_with (first | ((with_reducible refine gate_callee (f := 118) rfl ?_); refine goesL_ (some 21) rfl rfl Try.func118 (by kernel_rfl) rfl #[.slice A13 ((l0_1.take ((wrap64 (x6_1 + a1)) : Int).toNat).drop (x6_1 : Int).toNat).length (c0_1 - x6_1.toNat)] rfl (by (try simp only [la, lb, lc]); first | done | (rw [show ((l0_1.take ((wrap64 (x6_1 + a1)) : Int).toNat).drop (x6_1 : Int).toNat).length = ((wrap64 (x6_1 + a1)).toNat - x6_1.toNat) from (by rw [List.length_drop, List.length_take]; have h_ : ((wrap64 (x6_1 + a1)) : Int) ≤ (l0_1.length : Int) := of_decide_eq_true (by first | (with_reducible assumption) | assumption); omega)] <;> rfl) | rfl | (simp only [ld, le]; rfl)) ?_; (with_reducible refine (spec_l01Own.calls _ _ ((l0_1.take ((wrap64 (x6_1 + a1)) : Int).toNat).drop (x6_1 : Int).toNat) t138 _ ?side1 ?side2 A10.out).mono ?_); (case side1 => exact uC ((Kd.C_below HR137.out HB.out))); (case side2 => exact HC137.out); rintro e w14 ⟨v139, rfl, ho0, hb⟩; refine ⟨_, rfl, ?_⟩; have n0_ := zA (Kd.S_elder' (by (with_reducible repeat (first | apply Kd.S_alloc | apply Kd.S_drewN | apply Kd.S_drew)); exact HO_5.out) (Kd.R_base ho0) hb); have n1_ := zA (Kd.R_lower ho0 (below_size (uH HB.out))); have n2_ := xB BK133 hb; have n3_ := xH HB hb; clear HO_5 BK133 HB; have HO_5 := n0_; have HO140 := n1_; have BK133 := n2_; have HB := n3_; clear n0_ n1_ n2_ n3_; (try clear hb); (try clear hb2); (try clear hk); (try clear hi); (try clear ho0); obtain ⟨Ao16, co16, eo16⟩ := Kd.R_slice HO140.out; subst eo16) | ((with_reducible refine gate_builtin (b := .append) (xs := #[.tmp 13, .tmp 22]) rfl ?_); at_builtin; refine Kd.S_append (Kd.slice 2 (Kd.int .i64)) (w0 := w) w.heap.size rfl (.tmp 13) (.tmp 22) 89 22 (.slice none 0 0) 24 rfl Try.underlying89 info22 rfl (by decide) (by omega) u5 x5_1 t138 [.slice Ao16 t138.length co16] (fun _ => True) (fun k_ => some k_ = (.slice Ao16 t138.length co16 : Value).ownBlock) rfl rfl ?aP (fun k_ hk_ => ((Kd.R_mono (ok' := fun k_ => ((fun _ => True)) k_ ∧ some k_ ≠ (u5 : Value).ownBlock) (Kd.R_apart' (HO140.out) (Kd.S_typed HO_5.out) (by decide)) (fun k_ hk => ⟨trivial, hk.2⟩))).1 k_ hk_.symm) ?aF ?aO ?aB ?aS ?aL ?_; (case aP => exact Kd.M_row (Kd.R_mono (Kd.R_tight rfl (Kd.R_mono (ok' := fun k_ => ((fun _ => True)) k_ ∧ some k_ ≠ (u5 : Value).ownBlock) (Kd.R_apart' (HO140.out) (Kd.S_typed HO_5.out) (by decide)) (fun k_ hk => ⟨trivial, hk.2⟩))) (fun _ h_ => h_))); (case aB => exact (uH HB.out)); (case aF => exact (fun _ _ => trivial)); (case aO => exact (by (with_reducible repeat (first | apply Kd.S_alloc | apply Kd.S_drewN | apply Kd.S_drew)); exact Kd.S_mono HO_5.out (fun k_ hk => ⟨trivial, fun e_ => hk.2 e_⟩))); (case aS => exact (below_size (uH HB.out))); (case aL => have := LMc11.out; omega); intro v142 w15 ho hb hg hat; rw [← Ny141.out] at ho; have n0_ := zA (blk_grown (g := gb133) (o := .cells #[.int .i64 a0_0, .slice A0_1 l0_1.length c0_1] 31 (0, 0)) (uB BK133.out) hg (Kd.S_ne HO_5.out BK133.out (by decide))); have n1_ := zA (hb); have n2_ := zA (ho); clear BK133 HB HO_5 HO140; have BK133 := n0_; have HB := n1_; have HO143 := n2_; clear n0_ n1_ n2_ ho hb hg hat))
        go_roundg k1
        case measure => have := HK1.out; omega
        case rel => exact ⟨(y141), (wrap64 (x6_1 + 1)), (by first | rfl | (simp; done) | (simp [*]; done)), H', ⟨by have := HK1.out; omega⟩, ⟨by (with_reducible repeat (first | apply Kd.S_alloc | apply Kd.S_drewN | apply Kd.S_drew)); exact HO143.out⟩, ⟨uB BK133.out⟩, ⟨uH HB.out⟩⟩
       ·rw [if_neg c11] at H
        exact absurd H (by simp)
      ·rw [if_neg c9] at H
       exact absurd H (by simp)
     ·rw [if_neg c8] at H
      exact absurd H (by simp)
    ·rw [if_neg c7] at H
     exact absurd H (by simp)
   ·rw [if_neg c6] at H
    have c6b0 : decide (x6_1 < a1) = false := decide_eq_false c6
    clear c6
    replace H := Option.bind_eq_some_iff.mp H
    obtain ⟨t144, A170, H⟩ := H
    replace H : (some t144) = some r := H
    have A17 := zA A170
    clear A170
    obtain rfl := Option.some.inj H
    have hcz18_0 : wr.cell? ⟨gb133, 0, none⟩ = some (.int .i64 a0_0) := (blk_cell BK133.out 0).trans rfl
    have hcz18_1 : wr.cell? ⟨gb133, 1, none⟩ = some (.slice A0_1 l0_1.length c0_1) := (blk_cell BK133.out 1).trans rfl
    have hfz18_0 := blk_frozen BK133.out 0
    have hfz18_1 := blk_frozen BK133.out 1
    obtain ⟨Ao19, co19, eo19⟩ := Kd.S_slice HO_5.out
    subst eo19
    go_wp2_with (first | ((with_reducible refine gate_callee (f := 144) rfl ?_); refine goesL_ (some 27) rfl rfl Try.func144 (by kernel_rfl) rfl #[.int .i64 a0_0, .slice Ao19 x5_1.length co19] rfl (by (try simp only [la, lb, lc]); first | done | rfl | (simp only [ld, le]; rfl)) ?_; (with_reducible refine (spec_l02Det.calls k1 a0_0 _ x5_1 t144 w _ (fun _ => True) ?side1 ?side2 A17.out).mono ?_); (case side1 => exact (uH HB.out)); (case side2 => exact (uR (Kd.S_R HO_5.out))); rintro e w20 ⟨rfl, hb⟩; refine ⟨_, rfl, ?_⟩; clear HO_5 BK133 HB; have HB := zA hb; clear hb))
    go_ret
    exact ⟨by first | rfl | (simp [errW_none, errW_some] <;> rfl) | (simp [*, errW_none, errW_some] <;> rfl), uH HB.out⟩
/-! ### spec_HankelDeterminant: function 48 -/
def spec_HankelDeterminant.f (k : Nat) (a0_0 : Int) (l0_1 : List Int) (a1 : Int) : Option (Int × Int) := (spec_l02Are.f k a0_0 l0_1).bind fun t1255 => (if t1255 = true then ((spec_l01In.f a1 0 (wrap64 (Int.tdiv (wrap64 ((l0_1.length : Int) + 1)) 2))).bind fun t1256 => (if t1256 = true then ((spec_l02Hankel.f k a0_0 l0_1 a1).bind fun t1257 => (some (t1257, 0))) else (some (0, 2)))) else (some (0, 1)))
theorem spec_HankelDeterminant.mono : ∀ a0 a1 a2 k, LeO (spec_HankelDeterminant.f k a0 a1 a2) (spec_HankelDeterminant.f (k + 1) a0 a1 a2) := by
 intro a0 a1 a2 k
 unfold spec_HankelDeterminant.f
 repeat' first
   | (with_reducible exact spec_l02Are.mono _ _ _)
   | (with_reducible exact spec_l02Hankel.mono _ _ _ _)
   | (with_reducible exact LeO.refl _)
   | (with_reducible exact LeO.none _)
   | (with_reducible refine LeO.ite ?_ ?_)
   | (with_reducible refine LeO.bind ?_ (fun _ => ?_))
   | exact spec_l02Are.mono _ _ _
   | exact spec_l02Hankel.mono _ _ _ _
   | exact LeO.none _
   | refine LeO.ite ?_ ?_
   | refine LeO.bind ?_ (fun _ => ?_)
set_option maxHeartbeats 8000000 in
set_option maxRecDepth 100000 in
theorem spec_HankelDeterminant.calls (k : Nat) (a0_0 : Int) (A0_1 : Option Addr) (c0_1 : Nat) (l0_1 : List Int) (a1 : Int) (r1 : Int) (r2 : Int) (w : World) (hr0_1 : Kd.C (Kd.int .i64) w A0_1 l0_1.length l0_1) (hc0_1 : l0_1.length ≤ c0_1) (h : spec_HankelDeterminant.f k a0_0 l0_1 a1 = some (r1, r2)) :
  Calls Try.prog 48 #[.agg #[.int .i64 a0_0, .slice A0_1 l0_1.length c0_1], .int .i64 a1] w fun e w' => e = .returned (.tuple #[.int .i64 r1, .int .i64 r2]) ∧ Below w.heap.size w w' := by
 have hu31 := Try.underlying31
 have HR0_1 := zA hr0_1
 have HC0_1 := zA hc0_1
 clear hr0_1 hc0_1
 have HB := zA (Below.refl w.heap.size w)
 have H : ((spec_l02Are.f k a0_0 l0_1).bind fun t1255 => (if t1255 = true then ((spec_l01In.f a1 0 (wrap64 (Int.tdiv (wrap64 ((l0_1.length : Int) + 1)) 2))).bind fun t1256 => (if t1256 = true then ((spec_l02Hankel.f k a0_0 l0_1 a1).bind fun t1257 => (some (t1257, 0))) else (some (0, 2)))) else (some (0, 1)))) = some (r1, r2) := h
 clear h
 replace H := Option.bind_eq_some_iff.mp H
 obtain ⟨t1255, A30, H⟩ := H
 replace H : (if t1255 = true then ((spec_l01In.f a1 0 (wrap64 (Int.tdiv (wrap64 ((l0_1.length : Int) + 1)) 2))).bind fun t1256 => (if t1256 = true then ((spec_l02Hankel.f k a0_0 l0_1 a1).bind fun t1257 => (some (t1257, 0))) else (some (0, 2)))) else (some (0, 1))) = some (r1, r2) := H
 have A3 := zA A30
 clear A30
 by_cases c4 : t1255 = true
 ·subst c4
  have H1 : ((spec_l01In.f a1 0 (wrap64 (Int.tdiv (wrap64 ((l0_1.length : Int) + 1)) 2))).bind fun t1256 => (if t1256 = true then ((spec_l02Hankel.f k a0_0 l0_1 a1).bind fun t1257 => (some (t1257, 0))) else (some (0, 2)))) = some (r1, r2) := by rw [if_pos rfl] at H; exact H
  clear H
  have H := H1
  clear H1
  replace H := Option.bind_eq_some_iff.mp H
  obtain ⟨t1256, A50, H⟩ := H
  replace H : (if t1256 = true then ((spec_l02Hankel.f k a0_0 l0_1 a1).bind fun t1257 => (some (t1257, 0))) else (some (0, 2))) = some (r1, r2) := H
  have A5 := zA A50
  clear A50
  by_cases c6 : t1256 = true
  ·subst c6
   have H1 : ((spec_l02Hankel.f k a0_0 l0_1 a1).bind fun t1257 => (some (t1257, 0))) = some (r1, r2) := by rw [if_pos rfl] at H; exact H
   clear H
   have H := H1
   clear H1
   replace H := Option.bind_eq_some_iff.mp H
   obtain ⟨t1257, A70, H⟩ := H
   replace H : (some (t1257, 0)) = some (r1, r2) := H
   have A7 := zA A70
   clear A70
   simp only [Option.some.injEq, Prod.mk.injEq] at H
   obtain ⟨rfl, rfl⟩ := H
   go_enter Try.func48, Try.ntmps48
   go_wp2_with (first | ((with_reducible refine gate_dst (N := 2) rfl ?_); refine bx 2 #[.int .i64 a0_0, .slice A0_1 l0_1.length c0_1] 31 ?_; intro gb1254 hg w8 hbox hb; have BK1254 := zA (hbox); have GW1254 := gq HB hg; have GE1254 := gq HB hg; replace HB := xH HB hb; have := geI GE1254; clear hb hbox hg; have hcz9_0 := bc BK1254 0; have hcz9_1 := bc BK1254 1; have hfz9_0 := bf BK1254 0; have hfz9_1 := bf BK1254 1) | ((with_reducible refine gate_callee (f := 57) rfl ?_); refine gL (some 8) Try.func57 #[.agg #[.int .i64 a0_0, .slice A0_1 l0_1.length c0_1]] ?_; (with_reducible refine (spec_l02Are.calls k a0_0 _ _ l0_1 true _ ?side1 ?side2 A3.out).mono ?_); (case side1 => exact uC ((Kd.C_below HR0_1.out HB.out))); (case side2 => exact HC0_1.out); rintro e w10 ⟨rfl, hb⟩; refine ⟨_, rfl, ?_⟩; replace BK1254 := xB BK1254 hb; replace HB := xH HB hb; (try clear hb); (try clear hb2); (try clear hk); (try clear hi); have hcz11_0 := bc BK1254 0; have hcz11_1 := bc BK1254 1; have hfz11_0 := bf BK1254 0; have hfz11_1 := bf BK1254 1) | ((with_reducible refine gate_callee (f := 70) rfl ?_); refine gL (some 17) Try.func70 #[.int .i64 a1, .int .i64 0, .int .i64 (wrap64 (Int.tdiv (wrap64 ((l0_1.length : Int) + 1)) 2))] ?_; (with_reducible refine (spec_l01In.calls a1 0 (wrap64 (Int.tdiv (wrap64 ((l0_1.length : Int) + 1)) 2)) true _ A5.out).mono ?_); rintro e w' ⟨rfl, ⟨nd, rfl⟩⟩; refine ⟨_, rfl, ?_⟩) | ((with_reducible refine gate_callee (f := 112) rfl ?_); refine gL (some 21) Try.func112 #[.agg #[.int .i64 a0_0, .slice A0_1 l0_1.length c0_1], .int .i64 a1] ?_; (with_reducible refine (spec_l02Hankel.calls k a0_0 _ _ l0_1 a1 t1257 _ ?side1 ?side2 A7.out).mono ?_); (case side1 => repeat (first | exact (Kd.C_below HR0_1.out (uH HB.out)) | (with_reducible refine Kd.C_alloc ?_ _) | (with_reducible refine Kd.C_drewN ?_ _) | (with_reducible refine Kd.C_drew ?_))); (case side2 => exact HC0_1.out); rintro e w12 ⟨rfl, hb⟩; refine ⟨_, rfl, ?_⟩; replace BK1254 := xB BK1254 hb; replace HB := xH HB hb; (try clear hb); (try clear hb2); (try clear hk); (try clear hi)))
   go_ret2
   exact ⟨by first | rfl | (simp [errW_none, errW_some] <;> rfl) | (simp [*, errW_none, errW_some] <;> rfl), uH HB.out⟩
  ·replace c6 := Bool.eq_false_iff.mpr c6
   subst c6
   have H1 : (some (0, 2)) = some (r1, r2) := by rw [if_neg (show ¬ (false = true) by decide)] at H; exact H
   clear H
   have H := H1
   clear H1
   simp only [Option.some.injEq, Prod.mk.injEq] at H
   obtain ⟨rfl, rfl⟩ := H
   go_enter Try.func48, Try.ntmps48
   go_wp2_with (first | ((with_reducible refine gate_dst (N := 2) rfl ?_); refine bx 2 #[.int .i64 a0_0, .slice A0_1 l0_1.length c0_1] 31 ?_; intro gb1254 hg w13 hbox hb; have BK1254 := zA (hbox); have GW1254 := gq HB hg; have GE1254 := gq HB hg; replace HB := xH HB hb; have := geI GE1254; clear hb hbox hg; have hcz14_0 := bc BK1254 0; have hcz14_1 := bc BK1254 1; have hfz14_0 := bf BK1254 0; have hfz14_1 := bf BK1254 1) | ((with_reducible refine gate_callee (f := 57) rfl ?_); refine gL (some 8) Try.func57 #[.agg #[.int .i64 a0_0, .slice A0_1 l0_1.length c0_1]] ?_; (with_reducible refine (spec_l02Are.calls k a0_0 _ _ l0_1 true _ ?side1 ?side2 A3.out).mono ?_); (case side1 => exact uC ((Kd.C_below HR0_1.out HB.out))); (case side2 => exact HC0_1.out); rintro e w15 ⟨rfl, hb⟩; refine ⟨_, rfl, ?_⟩; replace BK1254 := xB BK1254 hb; replace HB := xH HB hb; (try clear hb); (try clear hb2); (try clear hk); (try clear hi); have hcz16_0 := bc BK1254 0; have hcz16_1 := bc BK1254 1; have hfz16_0 := bf BK1254 0; have hfz16_1 := bf BK1254 1) | ((with_reducible refine gate_callee (f := 70) rfl ?_); refine gL (some 17) Try.func70 #[.int .i64 a1, .int .i64 0, .int .i64 (wrap64 (Int.tdiv (wrap64 ((l0_1.length : Int) + 1)) 2))] ?_; (with_reducible refine (spec_l01In.calls a1 0 (wrap64 (Int.tdiv (wrap64 ((l0_1.length : Int) + 1)) 2)) false _ A5.out).mono ?_); rintro e w' ⟨rfl, ⟨nd, rfl⟩⟩; refine ⟨_, rfl, ?_⟩))
   go_ret2
   exact ⟨by first | rfl | (simp [errW_none, errW_some] <;> rfl) | (simp [*, errW_none, errW_some] <;> rfl), uH HB.out⟩
 ·replace c4 := Bool.eq_false_iff.mpr c4
  subst c4
  have H1 : (some (0, 1)) = some (r1, r2) := by rw [if_neg (show ¬ (false = true) by decide)] at H; exact H
  clear H
  have H := H1
  clear H1
  simp only [Option.some.injEq, Prod.mk.injEq] at H
  obtain ⟨rfl, rfl⟩ := H
  go_enter Try.func48, Try.ntmps48
  go_wp2_with (first | ((with_reducible refine gate_dst (N := 2) rfl ?_); refine bx 2 #[.int .i64 a0_0, .slice A0_1 l0_1.length c0_1] 31 ?_; intro gb1254 hg w17 hbox hb; have BK1254 := zA (hbox); have GW1254 := gq HB hg; have GE1254 := gq HB hg; replace HB := xH HB hb; have := geI GE1254; clear hb hbox hg; have hcz18_0 := bc BK1254 0; have hcz18_1 := bc BK1254 1; have hfz18_0 := bf BK1254 0; have hfz18_1 := bf BK1254 1) | ((with_reducible refine gate_callee (f := 57) rfl ?_); refine gL (some 8) Try.func57 #[.agg #[.int .i64 a0_0, .slice A0_1 l0_1.length c0_1]] ?_; (with_reducible refine (spec_l02Are.calls k a0_0 _ _ l0_1 false _ ?side1 ?side2 A3.out).mono ?_); (case side1 => exact uC ((Kd.C_below HR0_1.out HB.out))); (case side2 => exact HC0_1.out); rintro e w19 ⟨rfl, hb⟩; refine ⟨_, rfl, ?_⟩; replace BK1254 := xB BK1254 hb; replace HB := xH HB hb; (try clear hb); (try clear hb2); (try clear hk); (try clear hi)))
  go_ret2
  exact ⟨by first | rfl | (simp [errW_none, errW_some] <;> rfl) | (simp [*, errW_none, errW_some] <;> rfl), uH HB.out⟩
end Go.Proofs.Ytokkabgkjhpecaa.Pr
