/- The program's determinant: for square rows of numbers modulo p it computes detV. -/
import Derived.Test.YtfbnkebgdmfcfaaKWeightsFor8
namespace Go.Proofs.Ytfbnkebgdmfcfaa.Pr
open Go Go.RowKit Go.Proofs.YtfbnkebgdmfcfaaW.PrintWords Go.Proofs.YtfbnkebgdmfcfaaW.PrintLast Go.Proofs.YtfbnkebgdmfcfaaW.PrintMore
set_option linter.unusedVariables false
set_option linter.unusedSimpArgs false

def impl_field_determinant.f (_k : Nat) (a0 : Int) (l1 : List (List Int)) : Option Int := if sqrB a0 l1 then some (detV a0 l1) else none
def impl_field_determinant.T15 : Bool × List (List Nat × List Nat) := (true, [([], []), ([], []), ([], []), ([], []), ([], []), ([3, 4], [3, 4]), ([], []), ([], []), ([], []), ([7, 8], [7, 8]), ([6, 9], [6, 9]), ([10], [10]), ([], []), ([], []), ([12, 13], [12, 13]), ([14], [14]), ([0, 1, 0, 1, 6, 7, 8, 9, 10, 11, 15], [0, 1]), ([16, 11, 0, 1, 6, 7, 8, 9, 10, 11, 15], [11, 16]), ([2, 5, 0, 1, 2, 3, 4, 5, 6, 7, 8, 9, 10, 11, 12, 13, 14, 15, 16, 17], [2, 5]), ([18, 15, 17, 0, 1, 2, 3, 4, 5, 6, 7, 8, 9, 10, 11, 12, 13, 14, 15, 16, 17], [15, 18])])
def impl_field_determinant.B15 : List Nat := [0, 0, 0, 0, 0, 24, 0, 0, 0, 384, 960, 1984, 0, 0, 12288, 28672, 65475, 131011, 262143, 524287]
theorem impl_field_determinant.tab15 : rtab .any (opsOf Try.f152 15) = impl_field_determinant.T15 := by kernel_rfl
theorem impl_field_determinant.bits15 : waitsOk impl_field_determinant.T15.2 impl_field_determinant.B15 = true := by kernel_rfl
def impl_field_determinant.T17 : Bool × List (List Nat × List Nat) := (true, [([], []), ([], []), ([], []), ([], []), ([2, 3], [2, 3]), ([4], [4]), ([], []), ([5, 6], [5, 6]), ([7], [7]), ([0, 1, 8], [0, 1, 8]), ([9, 9, 0, 1, 2, 3, 4, 5, 6, 7, 8, 9], [1, 9])])
def impl_field_determinant.B17 : List Nat := [0, 0, 0, 0, 12, 28, 0, 124, 252, 511, 1023]
theorem impl_field_determinant.tab17 : rtab .any (opsOf Try.f152 17) = impl_field_determinant.T17 := by kernel_rfl
theorem impl_field_determinant.bits17 : waitsOk impl_field_determinant.T17.2 impl_field_determinant.B17 = true := by kernel_rfl
def impl_field_determinant.T21 : Bool × List (List Nat × List Nat) := (true, [([], []), ([], []), ([], []), ([1, 2], [1, 2]), ([3], [3]), ([], []), ([], []), ([5, 6], [5, 6]), ([7], [7]), ([], []), ([8, 9], [8, 9]), ([10], [10]), ([0, 4, 11], [0, 4, 11]), ([12, 12, 0, 1, 2, 3, 4, 5, 6, 7, 8, 9, 10, 11, 12], [12])])
def impl_field_determinant.B21 : List Nat := [0, 0, 0, 6, 14, 0, 0, 96, 224, 0, 992, 2016, 4095, 8191]
theorem impl_field_determinant.tab21 : rtab .any (opsOf Try.f152 21) = impl_field_determinant.T21 := by kernel_rfl
theorem impl_field_determinant.bits21 : waitsOk impl_field_determinant.T21.2 impl_field_determinant.B21 = true := by kernel_rfl
def impl_field_determinant.T25 : Bool × List (List Nat × List Nat) := (true, [([], []), ([], []), ([], []), ([], []), ([], []), ([3, 4], [3, 4]), ([5], [5]), ([], []), ([], []), ([], []), ([8, 9], [8, 9]), ([10], [10]), ([], []), ([11, 12], [11, 12]), ([13], [13]), ([7, 14], [7, 14]), ([6, 15], [6, 15]), ([2, 16], [2, 16]), ([0, 1, 0, 1, 2, 3, 4, 5, 6, 7, 8, 9, 10, 11, 12, 13, 14, 15, 16, 17], [0, 1]), ([18, 17, 17, 0, 1, 2, 3, 4, 5, 6, 7, 8, 9, 10, 11, 12, 13, 14, 15, 16, 17], [17, 18])])
def impl_field_determinant.B25 : List Nat := [0, 0, 0, 0, 0, 24, 56, 0, 0, 0, 768, 1792, 0, 7936, 16128, 32640, 65528, 131068, 262143, 524287]
theorem impl_field_determinant.tab25 : rtab .any (opsOf Try.f152 25) = impl_field_determinant.T25 := by kernel_rfl
theorem impl_field_determinant.bits25 : waitsOk impl_field_determinant.T25.2 impl_field_determinant.B25 = true := by kernel_rfl

set_option maxHeartbeats 8000000 in
set_option maxRecDepth 100000 in
theorem impl_field_determinant.calls (k : Nat) (a0 : Int) (A1 : Option Addr) (c1 : Nat) (l1 : List (List Int)) (r : Int) (w : World) (hr1 : Kd.C (Kd.slice 2 (Kd.int .i64)) w A1 l1.length l1) (hc1 : l1.length ≤ c1) (h : impl_field_determinant.f k a0 l1 = some r) :
    Calls Try.prog 152 #[.int .i64 a0, .slice A1 l1.length c1] w fun e w' => e = .returned (.int .i64 r) ∧ Below w.heap.size w w' := by
  unfold impl_field_determinant.f at h
  split at h
  case isFalse => cases h
  rename_i c2
  have HD := Aside0.mk (Option.some.inj h)
  clear h
  obtain ⟨⟨hp2, hpt⟩, hn, hrows⟩ := c2
  have HP := Aside0.mk (Pm.mk hp2 hpt)
  have HN := Aside0.mk hn
  have HROWS := Aside0.mk hrows
  have HR1 := Aside0.mk hr1
  clear hp2 hpt hn hrows hr1 hc1
  have HB := Aside0.mk (Below.refl w.heap.size w)
  have hmk : Try.prog.underlying 87 = some (.slice 22) := Try.underlying87
  have HMK := Aside0.mk hmk
  clear hmk
  go_enter Try.func152, Try.ntmps152
  go_wp2_with (first | ((with_reducible refine gate_dst (N := 17) rfl ?_); refine mx_make (e := 22) (e' := 2) 17 l1.length HMK.out (by kernel_rfl) HN.out (fun _ => 0) (fun _ => 0) (fun i => l1.getD i []) ?_; intro gb hg w3 HM0 hb; have HM := Aside0.mk HM0; clear HM0; have HB := Aside0.mk hb; clear hb hg))
  go_loopg [20] (l1.length + 1) (fun kq v20 w' => ∃ (i : Nat) (β κ : Nat → Nat), v20 = .int .i64 (i : Int) ∧ Aside0 (kq + i = l1.length + 1 ∧ i ≤ l1.length) ∧ Aside0 (Mx 22 2 w' w.heap.size gb l1.length i β κ (fun i => l1.getD i [])) ∧ Aside0 (Below w.heap.size w w'))
  case atStart => exact ⟨0, _, _, rfl, ⟨by omega, by omega⟩, ⟨HM.out.below (by repeat (first | exact Below.refl _ _ | apply below_drew1 | apply pw_below_drewN))⟩, ⟨uH HB.out⟩⟩
  case round =>
    clear HM HB
    obtain ⟨i, β, κ, rfl, HI, HM, HB⟩ := hrel
    by_cases ci : i < l1.length
    · have c1 : decide ((i : Int) < (l1.length : Int)) = true := decide_eq_true (by omega)
      have CI := Aside0.mk ci
      clear ci
      obtain ⟨ad, A0, c0, eA, hx, hl, hi⟩ := at_L1 HR1.out (i : Int) (by omega) (by have := CI.out; omega)
      cases eA
      replace hx := (HB.out.cell (World.block_lt_of_cell? w _ hx)).trans hx
      rw [toNat_nat] at hx
      have hli : (rd_L1 l1 (i : Int)).length = l1.length := by rw [rdL_nat]; exact (HROWS.out _ (getD_mem CI.out)).1
      rw [hli] at hx hl hi
      have HLI := Aside0.mk hli
      have HRI := Aside0.mk hi
      have HCI := Aside0.mk hl
      clear hi hl hli
      have q1 : (0 ≤ (i : Int)) = True := eq_true (by omega)
      have q2 : ((i : Int) < (l1.length : Int)) = True := eq_true (by have := CI.out; omega)
      go_wp2_with (first | ((with_reducible refine gate_callee (f := 73) rfl ?_); refine gL (some 28) Try.func73 #[.slice A0 l1.length c0] ?_; with_reducible refine (clone_calls HLI.out ?s0 HN.out ?sC HCI.out).mono ?_; (case s0 => have := CI.out; omega); (case sC => exact uC (Kd.C_below HRI.out HB.out)); rintro e w4 ⟨q, c', cur, rfl, hq, hcc, hqb, hqr, hb⟩; refine ⟨_, rfl, ?_⟩; have HM1 := Aside0.mk (HM.out.below hb); have HNE := Aside0.mk (fun j (hj : j < i) => Nat.ne_of_lt (Nat.lt_of_lt_of_le (HM.out.lt hj) hq)); have HQ := Aside0.mk hqb; have HQR := Aside0.mk hqr; have HQL := Aside0.mk (Nat.le_trans (below_size HB.out) hq); have HCC := Aside0.mk hcc; have HB1 := xH HB hb; clear HM HB hq hqb hqr hb hcc; have hs := HM1.out.outer0 (Nat.le_refl i) CI.out; have hf := HM1.out.outer_frozen i))
      go_roundg (l1.length - i)
      case measure => have := HI.out; have := CI.out; omega
      case rel =>
        have HMM := HM1.out.more (by decide) CI.out HQ.out HQL.out HCC.out (rd_L1 l1 (i : Int)) HLI.out HQR.out (fun j hj => HNE.out j hj)
        have eM : (fun j => if j = i then rd_L1 l1 (i : Int) else l1.getD j []) = fun j => l1.getD j [] := funext fun j => by
          by_cases hj : j = i
          · rw [if_pos hj, hj, rdL_nat]
          · rw [if_neg hj]
        rw [eM] at HMM
        have := CI.out
        have := HI.out
        have := HN.out
        exact ⟨i + 1, _, _, by rw [wsucc (n := 1001) (by omega) (by omega)], ⟨by omega, by omega⟩, ⟨HMM⟩, ⟨below_set HB1.out (Nat.le_trans HMM.bg (Nat.le_refl _))⟩⟩
    · obtain rfl : i = l1.length := by have := HI.out; omega
      have c1 : decide ((l1.length : Int) < (l1.length : Int)) = false := decide_eq_false (by omega)
      clear ci HI
      go_wp2_with (first | ((with_reducible refine gate_callee (f := 122) rfl ?_); refine gL (some 32) Try.func122 #[.int .i64 a0, .int .i64 1] ?_; refine (mod_calls HP.out 1 _).mono ?_; rintro e w' ⟨rfl, ⟨nd, rfl⟩⟩; refine ⟨_, rfl, ?_⟩))
      go_loopg [8, 35] (l1.length + 1) (fun kq v8 v35 w' => ∃ (c : Nat) (o : Int) (β κ : Nat → Nat) (M : Nat → List Int), v8 = .int .i64 o ∧ v35 = .int .i64 (c : Int) ∧ Aside0 (kq + c = l1.length + 1 ∧ c ≤ l1.length) ∧ Aside0 ((0 ≤ o ∧ o < a0) ∧ ∀ i, i < l1.length → Nm a0 (M i)) ∧ Aside0 (detGo a0 l1.length (l1.length - c) c M o = r) ∧ Aside0 (Mx 22 2 w' w.heap.size gb l1.length l1.length β κ M) ∧ Aside0 (Below w.heap.size w w'))
      case atStart =>
        have h1 : (1 : Int) % a0 = 1 := Int.emod_eq_of_lt (by omega) (by have := HP.out.two; omega)
        exact ⟨0, 1, β, κ, _, by rw [h1], rfl, ⟨by omega, by omega⟩, ⟨⟨by omega, by have := HP.out.two; omega⟩, fun i hi => (HROWS.out _ (getD_mem hi)).2⟩, HD, ⟨HM.out.below (by repeat (first | exact Below.refl _ _ | apply below_drew1 | apply pw_below_drewN))⟩, ⟨uH HB.out⟩⟩
      case round =>
        clear HM HB β κ HD
        obtain ⟨c, o, β, κ, M, rfl, rfl, HC, HO, HG, HM, HB⟩ := hrel
        by_cases cc : c < l1.length
        · have c1 : decide ((c : Int) < (l1.length : Int)) = true := decide_eq_true (by omega)
          have CC := Aside0.mk cc
          clear cc
          obtain ⟨v, hv⟩ : ∃ v : Int, v = if pivot M c (l1.length - c) c = l1.length then -1 else ((pivot M c (l1.length - c) c - c : Nat) : Int) := ⟨_, rfl⟩
          have HV := Aside0.mk hv
          clear hv
          have hcut := cut_run (P := Try.prog) HMK.out (by kernel_rfl) gb l1.length c (Nat.le_of_lt CC.out)
          have hmf : ∀ (fn_ : Fn) (first_ cap_ : Array Value) (w_ : World), (Instr.makeFunc fn_ first_ cap_).run Try.prog w_ = .ok (.func fn_ first_ cap_) w_ := fun _ _ _ _ => rfl
          have cc := CC.out
          go_upto_region 12 with (first | ((with_reducible refine gate_dst (N := 9) rfl ?_); refine bx 9 #[.int .i64 0] 3 ?_; intro gq hq w5 hbox hb; have n0_ := Aside0.mk (HM.out.below hb); have n1_ := xH HB hb; have BK := Aside0.mk hbox; have GE : Aside0 (w.heap.size ≤ gq) := ⟨by rw [hq]; exact below_size (uH HB.out)⟩; clear HM HB hbox hb hq; have HM := n0_; have HB := n1_; clear n0_ n1_; have hcz : w5.cell? ⟨gq, 0, none⟩ = some (.int .i64 0) := (blk_cell BK.out 0).trans rfl; have hfz := blk_frozen BK.out 0) | ((with_reducible refine gate_store (t := 3) (p := 9) rfl ?_); refine store_event (t := 3) (p := 9) (v := ?vo) (w1 := (w5.setCell ⟨gq, 0, none⟩ (.int .i64 (c : Int)))) ?hg ?ho ?hn ?hr ?_; (case ho => rfl); (case hg => rfl); (case hn => rfl); (case hr => first | (go_simp; done) | (go_simp; rfl)); intro w6 hw; clear hcz hfz; have hne := HM.out.box_ne BK.out (by decide) (by decide); have n0_ := Aside0.mk (HM.out.far hne.1 hne.2 0 (.int .i64 (c : Int))); have n1_ := Aside0.mk (below_set (j := 0) (v := .int .i64 (c : Int)) HB.out GE.out); have n2_ := Aside0.mk (blk_put (cs' := #[.int .i64 (c : Int)]) BK.out 0 (.int .i64 (c : Int)) rfl); rw [← hw] at n0_ n1_ n2_; clear HM HB BK hne hw; have HM := n0_; have HB := n1_; have BK := n2_; clear n0_ n1_ n2_; have hcz : w6.cell? ⟨gq, 0, none⟩ = some (.int .i64 (c : Int)) := (blk_cell BK.out 0).trans rfl) | ((with_reducible refine gate_callee (f := 157) rfl ?_); refine gL (some 42) Try.func157 #[.slice (some (cutAt gb l1.length c)) (l1.length - c) (l1.length - c), .func (.func 158) #[] #[.pointer (some ⟨gq, 0, none⟩)]] ?_; with_reducible refine (find_calls HM.out HN.out CC.out BK.out HV.out).mono ?_; rintro e w7 ⟨rfl, hb⟩; refine ⟨_, rfl, ?_⟩; have n0_ := Aside0.mk (HM.out.below hb); have n1_ := xH HB hb; have n2_ := xB BK hb; clear HM HB BK hb hcz; have HM := n0_; have HB := n1_; have BK := n2_; clear n0_ n1_ n2_))
          all_goals clear hcut hmf cc
          by_cases hP : pivot M c (l1.length - c) c = l1.length
          · have hv : v = -1 := by rw [HV.out, if_pos hP]
            have e : (0 : Int) = r := by
              have h := HG.out
              rw [show l1.length - c = (l1.length - c - 1) + 1 from by have := CC.out; omega, detGo, if_pos hP] at h
              exact h
            subst e
            clear HV
            subst hv
            have hd : decide ((-1 : Int) < 0) = true := rfl
            go_wp2
            go_ret
            exact ⟨rfl, uH HB.out⟩
          · have hPc := pivot_in M c (l1.length - c) c
            have hv : v = ((pivot M c (l1.length - c) c - c : Nat) : Int) := by rw [HV.out, if_neg hP]
            have hG : detGo a0 l1.length (l1.length - (c + 1)) (c + 1) (stepM a0 (invF a0 ((M (pivot M c (l1.length - c) c)).getD c 0)) l1.length c (swapM M c (pivot M c (l1.length - c) c)))
                ((if pivot M c (l1.length - c) c = c then o else (-o) % a0) * (M (pivot M c (l1.length - c) c)).getD c 0 % a0) = r := by
              have h := HG.out
              rw [show l1.length - c = (l1.length - c - 1) + 1 from by have := CC.out; omega, detGo, if_neg hP] at h
              rw [show l1.length - (c + 1) = l1.length - c - 1 from by omega]
              exact h
            clear HG HV
            generalize pivot M c (l1.length - c) c = P at hP hPc hv hG
            have HG := Aside0.mk hG
            have HPI := Aside0.mk (show c ≤ P ∧ P < l1.length from by have := CC.out; omega)
            have HVE := Aside0.mk hv
            have hv0 : 0 ≤ v := by omega
            have hv1 : ¬ v < 0 := by omega
            clear hG hPc hP hv
            go_upto_if 46 with (fail)
            all_goals clear hv0 hv1
            go_cut [8] (fun v8 wc => ∃ β κ : Nat → Nat, v8 = .int .i64 (if P = c then o else (-o) % a0) ∧ Aside0 (Mx 22 2 wc w.heap.size gb l1.length l1.length β κ (swapM M c P)) ∧ Aside0 (wc.heap[gq]? = some (.cells #[.int .i64 (c : Int)] 3 (0, 0))) ∧ Aside0 (Below w.heap.size w wc))
            case first =>
              by_cases hpc : P = c
              · have hv : v = 0 := by have := HVE.out; omega
                clear HVE
                subst hv
                have hd : decide ((0 : Int) > 0) = false := rfl
                have hd2 : decide ((0 : Int) < 0) = false := rfl
                go_wp2
                go_meet
                case rel =>
                  have e : swapM M c P = M := funext fun i => by
                    unfold swapM
                    by_cases hi : i = c
                    · rw [if_pos hi, hpc, hi]
                    · rw [if_neg hi, if_neg (by rw [hpc]; exact hi)]
                  exact ⟨β, κ, by rw [if_pos hpc], ⟨by rw [e]; exact HM.out.below (by repeat (first | exact Below.refl _ _ | apply below_drew1 | apply pw_below_drewN))⟩, ⟨uB BK.out⟩, ⟨uH HB.out⟩⟩
              · have hlt : c < P := by have := HPI.out; omega
                have hd : decide (v > 0) = true := decide_eq_true (by have := HVE.out; omega)
                have hd2 : decide (0 < v) = true := hd
                have hd3 : 0 < v := of_decide_eq_true hd
                go_wp2
                have hadd : IntKind.i64.wrap ((c : Int) + v) = (P : Int) := by rw [i64_w, HVE.out]; have := HPI.out; have := HN.out; rw [wrap_id (by omega) (by omega)]; omega
                have q0 : (0 ≤ (c : Int)) = True := eq_true (by omega)
                have q1 : ((c : Int) < (l1.length : Int)) = True := eq_true (by have := CC.out; omega)
                have q2 : (0 ≤ (P : Int)) = True := eq_true (by omega)
                have q3 : ((P : Int) < (l1.length : Int)) = True := eq_true (by have := HPI.out; omega)
                refine start_ (n := 20) (S := fun w' => w'.cell? ⟨gq, 0, none⟩ = some (.int .i64 (c : Int))) (ds := [19]) (bl 20 0) (by kernel_rfl) rfl (by kernel_rfl) ((blk_cell BK.out 0).trans rfl) (fun hHeld => ?_)
                refine with_tabW impl_field_determinant.tab15 impl_field_determinant.bits15 (fun HT_ HW_ => ?_)
                have n0_ := Aside0.mk (HM.out.below (below_drew1 (Below.refl _ _)))
                have n1_ := Aside0.mk (below_drew1 HB.out)
                have n2_ := Aside0.mk (blk_drew BK.out)
                clear HM HB BK
                have HM := n0_; have HB := n1_; have BK := n2_
                clear n0_ n1_ n2_
                generalize w7.drew = w8 at HM HB BK hHeld ⊢
                have hne := HM.out.box_ne BK.out (by decide) (by decide)
                have hcc := HM.out.outer CC.out
                have hcp := HM.out.outer HPI.out.2
                have hfc := HM.out.outer_frozen c
                have hsw : (w8.setCell ⟨gb, c, none⟩ (.slice (some ⟨β P, 0, none⟩) l1.length (κ P))).cell? ⟨gb, P, none⟩ = some (.slice (some ⟨β P, 0, none⟩) l1.length (κ P)) := by
                  rw [blk_cell (blk_set HM.out.out c _) P, Array.getElem?_setIfInBounds_ne (by omega), ← blk_cell HM.out.out P]; exact hcp
                have hswf := blk_frozen (blk_set HM.out.out c (.slice (some ⟨β P, 0, none⟩) l1.length (κ P))) P
                refine pu_ 0 47 (bl 20 1) HT_ ?_
                refine pu_ 2 49 (bl 20 5) HT_ ?_
                refine pu_ 4 51 (bl 20 21) HT_ ?_
                refine pu_ 6 53 (bl 20 85) HT_ ?_
                refine pu_ 8 55 (bl 20 341) HT_ ?_
                refine pu_ 12 59 (bl 20 4437) HT_ ?_
                refine ta_ 1 48 (bl 20 4439) HT_ HW_ hHeld ?_
                refine ta_ 3 50 (bl 20 4447) HT_ HW_ hHeld ?_
                refine pu_ 5 52 (bl 20 4479) HT_ ?_
                refine ta_ 7 54 (bl 20 4607) HT_ HW_ hHeld ?_
                refine pu_ 9 56 (bl 20 5119) HT_ ?_
                refine pu_ 10 57 (bl 20 6143) HT_ ?_
                refine ta_ 13 60 (bl 20 14335) HT_ HW_ hHeld ?_
                refine pu_ 14 61 (bl 20 30719) HT_ ?_
                refine lo2_ 11 15 58 62 (bl 20 32767) (bl 20 63487) (bl 20 65535) HT_ hHeld ?_
                refine pu_ 16 63 (bl 20 131071) HT_ ?_
                refine on_ 17 none (bl 20 262143) HT_ (fun K hK => ?_)
                refine skip_ (w1 := w8.setCell ⟨gb, c, none⟩ (.slice (some ⟨β P, 0, none⟩) l1.length (κ P))) (by rfl) rfl (by first | (go_simp; done) | (go_simp; rfl)) ?_
                have hbx : (w8.setCell ⟨gb, c, none⟩ (.slice (some ⟨β P, 0, none⟩) l1.length (κ P))).cell? ⟨gq, 0, none⟩ = some (.int .i64 (c : Int)) := (blk_cell (blk_far BK.out hne.1 _) 0).trans rfl
                refine hK.out _ _ hbx (fun hHeld => ?_)
                clear hK K
                refine pu_ 18 64 (bl 20 524287) HT_ ?_
                refine last_ (i := 19) (N := none) (bl 20 1048575) rfl rfl (one_of HT_.out (by kernel_rfl)) (by decide) (fun K hK => ?_)
                have hsP : (w8.setCell ⟨gb, c, none⟩ (.slice (some ⟨β P, 0, none⟩) l1.length (κ P))).cell? ⟨gb, P, none⟩ = some (.slice (some ⟨β P, 0, none⟩) l1.length (κ P)) := hsw
                have hsF : (w8.setCell ⟨gb, c, none⟩ (.slice (some ⟨β P, 0, none⟩) l1.length (κ P))).frozen? ⟨gb, P, none⟩ = false := hswf
                refine skip_ (w1 := (w8.setCell ⟨gb, c, none⟩ (.slice (some ⟨β P, 0, none⟩) l1.length (κ P))).setCell ⟨gb, P, none⟩ (.slice (some ⟨β c, 0, none⟩) l1.length (κ c))) (by rfl) rfl (by first | (go_simp; done) | (go_simp; rfl)) ?_
                refine hK.out _ _ ?_
                clear hK K
                refine done_ (done_of HT_.out (by kernel_rfl)) ?_
                have HM9 := HM.out.swap (by decide) CC.out HPI.out.2
                have eM : (fun i => if i = P then M c else if i = c then M P else M i) = swapM M c P := funext fun i => by
                  unfold swapM
                  by_cases hi : i = c
                  · rw [if_pos hi, if_neg (by omega), if_pos hi]
                  · rw [if_neg hi, if_neg hi]
                rw [eM] at HM9
                have n0_ := Aside0.mk HM9
                have n1_ := Aside0.mk (below_set (j := P) (v := .slice (some ⟨β c, 0, none⟩) l1.length (κ c)) (below_set (j := c) (v := .slice (some ⟨β P, 0, none⟩) l1.length (κ P)) HB.out HM.out.bg) HM.out.bg)
                have n2_ := Aside0.mk (blk_far (p := ⟨gb, P, none⟩) (blk_far (p := ⟨gb, c, none⟩) BK.out hne.1 (.slice (some ⟨β P, 0, none⟩) l1.length (κ P))) hne.1 (.slice (some ⟨β c, 0, none⟩) l1.length (κ c)))
                clear HM9 eM HM HB BK hHeld hbx hsP hsF hsw hswf hcc hcp hfc hne
                have HM := n0_; have HB := n1_; have BK := n2_
                clear n0_ n1_ n2_
                generalize (w8.setCell ⟨gb, c, none⟩ (.slice (some ⟨β P, 0, none⟩) l1.length (κ P))).setCell ⟨gb, P, none⟩ (.slice (some ⟨β c, 0, none⟩) l1.length (κ c)) = w9 at HM HB BK ⊢
                clear hadd q0 q1 q2 q3 hd hd2 hd3
                go_wp2_with (first | ((with_reducible refine gate_callee (f := 122) rfl ?_); refine gL (some 68) Try.func122 #[.int .i64 a0, .int .i64 (wrap64 (-o))] ?_; refine (mod_calls HP.out (wrap64 (-o)) _).mono ?_; rintro e w' ⟨rfl, ⟨nd, rfl⟩⟩; refine ⟨_, rfl, ?_⟩))
                go_meet
                case rel =>
                  have ew : wrap64 (-o) = -o := by have := HO.out; have := HP.out.top; rw [wrap_id (by omega) (by omega)]
                  exact ⟨_, _, by rw [if_neg hpc, ew], ⟨HM.out.below (by repeat (first | exact Below.refl _ _ | apply below_drew1 | apply pw_below_drewN))⟩, ⟨uB BK.out⟩, ⟨uH HB.out⟩⟩
            case rest =>
              obtain ⟨β1, κ1, rfl, HM, BK, HB⟩ := hcut
              have hMc : swapM M c P c = M P := by unfold swapM; rw [if_pos rfl]
              have hNm : ∀ i, i < l1.length → Nm a0 (swapM M c P i) := fun i hi => by
                unfold swapM
                by_cases h1 : i = c
                · rw [if_pos h1]; exact HO.out.2 _ HPI.out.2
                · by_cases h2 : i = P
                  · rw [if_neg h1, if_pos h2]; exact HO.out.2 _ CC.out
                  · rw [if_neg h1, if_neg h2]; exact HO.out.2 _ hi
              have hoB : 0 ≤ (if P = c then o else (-o) % a0) ∧ (if P = c then o else (-o) % a0) < a0 := by
                by_cases h1 : P = c
                · rw [if_pos h1]; exact HO.out.1
                · rw [if_neg h1]; exact emodB HP.out.pos _
              have hG := HG.out
              rw [← hMc] at hG
              clear HG hMc HO
              generalize swapM M c P = M1 at HM hNm hG
              generalize (if P = c then o else (-o) % a0) = o1 at hoB hG ⊢
              obtain ⟨y0, hy0⟩ : ∃ y0, (M1 c).getD c 0 = y0 := ⟨_, rfl⟩
              obtain ⟨o2, ho2⟩ : ∃ o2, o1 * y0 % a0 = o2 := ⟨_, rfl⟩
              have hy0B := (hNm c CC.out).getp HP.out.pos c
              rw [hy0] at hy0B
              have HY0 := Aside0.mk hy0
              have HY0B := Aside0.mk hy0B
              have HO2 := Aside0.mk ho2
              have HOB2 : Aside0 (0 ≤ o2 ∧ o2 < a0) := ⟨by rw [← ho2]; exact emodB HP.out.pos _⟩
              rw [hy0, ho2] at hG
              clear hy0 hy0B ho2
              have HNM := Aside0.mk hNm
              have HOB := Aside0.mk hoB
              have HG := Aside0.mk hG
              clear hG hNm hoB HPI HVE
              go_wp2
              have q0 : (0 ≤ (c : Int)) = True := eq_true (by omega)
              have q1 : ((c : Int) < (l1.length : Int)) = True := eq_true (by have := CC.out; omega)
              refine start_ (n := 11) (S := fun w' => w'.cell? ⟨gq, 0, none⟩ = some (.int .i64 (c : Int)) ∧ w'.cell? ⟨gb, c, none⟩ = some (.slice (some ⟨β1 c, 0, none⟩) l1.length (κ1 c)) ∧ w'.cell? ⟨β1 c, c, none⟩ = some (.int .i64 y0)) (ds := []) (bl 11 0) (by kernel_rfl) rfl (by kernel_rfl) ⟨(blk_cell BK.out 0).trans rfl, HM.out.outer CC.out, (HM.out.cell CC.out CC.out).trans (by rw [HY0.out])⟩ (fun hHeld => ?_)
              refine with_tabW impl_field_determinant.tab17 impl_field_determinant.bits17 (fun HT_ HW_ => ?_)
              have n0_ := Aside0.mk (HM.out.below (below_drew1 (Below.refl _ _)))
              have n1_ := Aside0.mk (below_drew1 HB.out)
              have n2_ := Aside0.mk (blk_drew BK.out)
              clear HM HB BK
              have HM := n0_; have HB := n1_; have BK := n2_
              clear n0_ n1_ n2_
              generalize wc.drew = w8 at HM HB BK hHeld ⊢
              refine pu_ 0 69 (bl 11 1) HT_ ?_
              refine pu_ 1 70 (bl 11 3) HT_ ?_
              refine pu_ 2 71 (bl 11 7) HT_ ?_
              refine ta_ 3 72 (bl 11 15) HT_ HW_ hHeld ?_
              refine pu_ 4 73 (bl 11 31) HT_ ?_
              refine ta_ 5 74 (bl 11 63) HT_ HW_ hHeld ?_
              refine ta_ 6 75 (bl 11 127) HT_ HW_ hHeld ?_
              refine pu_ 7 76 (bl 11 255) HT_ ?_
              refine ta_ 8 77 (bl 11 511) HT_ HW_ hHeld ?_
              refine on_ 9 (some 78) (bl 11 1023) HT_ (fun K hK => ?_)
              refine gS Try.func131 #[.int .i64 a0, .int .i64 o1, .int .i64 y0] ?_
              refine (mul_calls2 HP.out HOB.out HY0B.out HO2.out _).mono ?_
              rintro e w' ⟨rfl, ⟨nd, rfl⟩⟩
              refine ⟨_, rfl, ?_⟩
              refine hK.out _ _ hHeld (fun hHeld => ?_)
              clear hK K
              refine no_ 78 ?_
              refine pu_ 10 8 (bl 11 2047) HT_ ?_
              refine done_ (done_of HT_.out (by kernel_rfl)) ?_
              have n0_ := Aside0.mk (HM.out.below (pw_below_drewN (Below.refl _ _) nd))
              have n1_ := Aside0.mk (pw_below_drewN HB.out nd)
              have n2_ := Aside0.mk (blk_drewN BK.out nd)
              clear HM HB BK
              have HM := n0_; have HB := n1_; have BK := n2_
              clear n0_ n1_ n2_ hHeld
              generalize w8.drewN nd = w9 at HM HB BK ⊢
              clear HOB HO2 q0 q1
              obtain ⟨c', hc'⟩ : ∃ c', c' = c + 1 := ⟨_, rfl⟩
              obtain ⟨m, hm⟩ : ∃ m, l1.length - c' = m := ⟨_, rfl⟩
              have hadd : IntKind.i64.wrap ((c : Int) + 1) = (c' : Int) := by rw [i64_w, hc', wsucc CC.out (by have := HN.out; omega)]
              have hcut := cut_run (P := Try.prog) HMK.out (by kernel_rfl) gb l1.length c' (by have := CC.out; omega)
              rw [hm] at hcut
              have HCE := Aside0.mk hc'
              have HME := Aside0.mk hm
              clear hc' hm
              have hcz : w9.cell? ⟨gq, 0, none⟩ = some (.int .i64 (c : Int)) := (blk_cell BK.out 0).trans rfl
              go_wp2
              obtain ⟨E, hE⟩ : ∃ E : Nat → List Int, E = fun i => elimRow a0 ((M1 i).getD c 0 * invF a0 y0 % a0) (M1 i) (M1 c) l1.length := ⟨_, rfl⟩
              have HE := Aside0.mk hE
              clear hE hcz hcut
              go_loopg [84] (m + 1) (fun kq v84 w' => ∃ j : Nat, v84 = .int .i64 (j : Int) ∧ Aside0 (kq + j = m + 1 ∧ j ≤ m) ∧ Aside0 (Mx 22 2 w' w.heap.size gb l1.length l1.length β1 κ1 (fun t => if c < t ∧ t < c' + j then E t else M1 t)) ∧ Aside0 (w'.heap[gq]? = some (.cells #[.int .i64 (c : Int)] 3 (0, 0))) ∧ Aside0 (Below w.heap.size w w'))
              case atStart =>
                refine ⟨0, rfl, ⟨by omega, by omega⟩, ⟨(HM.out.below (by repeat (first | exact Below.refl _ _ | apply below_drew1 | apply pw_below_drewN))).congr fun t _ => ?_⟩, ⟨uB BK.out⟩, ⟨uH HB.out⟩⟩
                rw [if_neg (by have := HCE.out; omega)]
              case round =>
                clear HM HB BK hadd
                obtain ⟨j, rfl, HJ, HM, BK, HB⟩ := hrel
                by_cases cj : j < m
                · have c1 : decide ((j : Int) < (m : Int)) = true := decide_eq_true (by omega)
                  have CJ := Aside0.mk cj
                  clear cj
                  obtain ⟨i, hi⟩ : ∃ i, i = c' + j := ⟨_, rfl⟩
                  have HIE := Aside0.mk hi
                  have HI := Aside0.mk (show c < i ∧ i < l1.length from by have := HCE.out; have := HME.out; have := CJ.out; omega)
                  have HN1 := Aside0.mk (show ¬ (c < i ∧ i < c' + j) from by omega)
                  have HN2 := Aside0.mk (show ¬ (c < c ∧ c < c' + j) from by omega)
                  clear hi
                  have hx : wr.cell? ((cutAt gb l1.length c').add j) = some (.slice (some ⟨β1 i, 0, none⟩) l1.length (κ1 i)) := by
                    rw [cutAt_add (by have := HME.out; have := CJ.out; omega), ← HIE.out]; exact HM.out.outer HI.out.2
                  have hri : wr.cell? ⟨β1 i, c, none⟩ = some (.int .i64 ((M1 i).getD c 0)) := by have h := HM.out.cell HI.out.2 CC.out; simp only [if_neg HN1.out] at h; exact h
                  obtain ⟨x0, hx0⟩ : ∃ x0, (M1 i).getD c 0 = x0 := ⟨_, rfl⟩
                  obtain ⟨f, hf⟩ : ∃ f, x0 * invF a0 y0 % a0 = f := ⟨_, rfl⟩
                  have hx0B := (HNM.out i HI.out.2).getp HP.out.pos c
                  rw [hx0] at hri hx0B
                  have HF : Aside0 (E i = elimRow a0 f (M1 i) (M1 c) l1.length) := ⟨by rw [HE.out, ← hf, ← hx0]⟩
                  have HFB : Aside0 (0 ≤ f ∧ f < a0) := ⟨by rw [← hf]; exact emodB HP.out.pos _⟩
                  have HX0B := Aside0.mk hx0B
                  have HFE := Aside0.mk hf
                  clear hx0 hx0B hf
                  have hrc : wr.cell? ⟨β1 c, c, none⟩ = some (.int .i64 y0) := by have h := HM.out.cell CC.out CC.out; simp only [if_neg HN2.out] at h; rw [HY0.out] at h; exact h
                  have HRI := Aside0.mk hri
                  have HRC := Aside0.mk hrc
                  clear hri hrc
                  have qj0 : (0 ≤ (j : Int)) = True := eq_true (by omega)
                  have qj1 : ((j : Int) < (m : Int)) = True := eq_true (by have := CJ.out; omega)
                  go_wp2
                  clear hx qj0 qj1
                  have q0 : (0 ≤ (c : Int)) = True := eq_true (by omega)
                  have q1 : ((c : Int) < (l1.length : Int)) = True := eq_true (by have := CC.out; omega)
                  refine start_ (n := 14) (S := fun w' => w'.cell? ⟨gq, 0, none⟩ = some (.int .i64 (c : Int)) ∧ w'.cell? ⟨gb, c, none⟩ = some (.slice (some ⟨β1 c, 0, none⟩) l1.length (κ1 c)) ∧ w'.cell? ⟨β1 c, c, none⟩ = some (.int .i64 y0) ∧ w'.cell? ⟨β1 i, c, none⟩ = some (.int .i64 x0)) (ds := []) (bl 14 0) (by kernel_rfl) rfl (by kernel_rfl) ⟨(blk_cell BK.out 0).trans rfl, HM.out.outer CC.out, HRC.out, HRI.out⟩ (fun hHeld => ?_)
                  refine with_tabW impl_field_determinant.tab21 impl_field_determinant.bits21 (fun HT_ HW_ => ?_)
                  have n0_ := Aside0.mk (HM.out.below (below_drew1 (Below.refl _ _)))
                  have n1_ := Aside0.mk (below_drew1 HB.out)
                  have n2_ := Aside0.mk (blk_drew BK.out)
                  clear HM HB BK
                  have HM := n0_; have HB := n1_; have BK := n2_
                  clear n0_ n1_ n2_
                  clear HRI HRC
                  generalize wr.drew = w10 at HM HB BK hHeld ⊢
                  refine pu_ 0 88 (bl 14 1) HT_ ?_
                  refine pu_ 1 89 (bl 14 3) HT_ ?_
                  refine pu_ 5 93 (bl 14 35) HT_ ?_
                  refine ta_ 2 90 (bl 14 39) HT_ HW_ hHeld ?_
                  refine pu_ 3 91 (bl 14 47) HT_ ?_
                  refine ta_ 4 92 (bl 14 63) HT_ HW_ hHeld ?_
                  refine ta_ 6 94 (bl 14 127) HT_ HW_ hHeld ?_
                  refine pu_ 7 95 (bl 14 255) HT_ ?_
                  refine ta_ 8 96 (bl 14 511) HT_ HW_ hHeld ?_
                  refine ta_ 9 97 (bl 14 1023) HT_ HW_ hHeld ?_
                  refine pu_ 10 98 (bl 14 2047) HT_ ?_
                  refine ta_ 11 99 (bl 14 4095) HT_ HW_ hHeld ?_
                  refine on_ 12 (some 100) (bl 14 8191) HT_ (fun K hK => ?_)
                  refine gS Try.func132 #[.int .i64 a0, .int .i64 x0, .int .i64 y0] ?_
                  refine (div_calls2 HP.out HX0B.out HY0B.out HFE.out _).mono ?_
                  rintro e w' ⟨rfl, ⟨nd, rfl⟩⟩
                  refine ⟨_, rfl, ?_⟩
                  refine hK.out _ _ hHeld (fun hHeld => ?_)
                  clear hK K
                  refine no_ 100 ?_
                  refine pu_ 13 13 (bl 14 16383) HT_ ?_
                  refine done_ (done_of HT_.out (by kernel_rfl)) ?_
                  have n0_ := Aside0.mk (HM.out.below (pw_below_drewN (Below.refl _ _) nd))
                  have n1_ := Aside0.mk (pw_below_drewN HB.out nd)
                  have n2_ := Aside0.mk (blk_drewN BK.out nd)
                  clear HM HB BK
                  have HM := n0_; have HB := n1_; have BK := n2_
                  clear n0_ n1_ n2_
                  clear hHeld q0 q1
                  generalize w10.drewN nd = w11 at HM HB BK ⊢
                  go_wp2
                  go_loopg [103] (l1.length + 1) (fun kq v103 w' => ∃ q : Nat, v103 = .int .i64 (q : Int) ∧ Aside0 (kq + q = l1.length + 1 ∧ q ≤ l1.length) ∧ Aside0 (Mx 22 2 w' w.heap.size gb l1.length l1.length β1 κ1 (fun t => if t = i then partRow a0 f (M1 i) (M1 c) l1.length q else if c < t ∧ t < c' + j then E t else M1 t)) ∧ Aside0 (w'.heap[gq]? = some (.cells #[.int .i64 (c : Int)] 3 (0, 0))) ∧ Aside0 (Below w.heap.size w w'))
                  case atStart =>
                    refine ⟨0, rfl, ⟨by omega, by omega⟩, ⟨(HM.out.below (by repeat (first | exact Below.refl _ _ | apply below_drew1 | apply pw_below_drewN))).congr fun t ht => ?_⟩, ⟨uB BK.out⟩, ⟨uH HB.out⟩⟩
                    by_cases hti : t = i
                    · have hl := HM.out.len i HI.out.2
                      simp only [if_neg HN1.out] at hl
                      rw [if_pos hti, partRow_zero a0 f (M1 c) hl, hti, if_neg HN1.out]
                    · rw [if_neg hti]
                  case round =>
                    clear HM HB BK
                    obtain ⟨q, rfl, HQ, HM, BK, HB⟩ := hrel
                    by_cases cq : q < l1.length
                    · have c1 : decide ((q : Int) < (l1.length : Int)) = true := decide_eq_true (by omega)
                      have CQ := Aside0.mk cq
                      clear cq
                      obtain ⟨x1, hx1⟩ : ∃ x1, (M1 i).getD q 0 = x1 := ⟨_, rfl⟩
                      obtain ⟨y1, hy1⟩ : ∃ y1, (M1 c).getD q 0 = y1 := ⟨_, rfl⟩
                      have HRI : Aside0 (wr.cell? ⟨β1 i, q, none⟩ = some (.int .i64 x1)) := ⟨by have h := HM.out.cell HI.out.2 CQ.out; rw [← hx1]; simp only [if_true, partRow_get _ _ _ _ CQ.out, Nat.lt_irrefl, if_false] at h; exact h⟩
                      have HRC : Aside0 (wr.cell? ⟨β1 c, q, none⟩ = some (.int .i64 y1)) := ⟨by have h := HM.out.cell CC.out CQ.out; rw [← hy1]; simp only [if_neg (show ¬ c = i from by have := HI.out; omega), if_neg HN2.out] at h; exact h⟩
                      have hx1B := (HNM.out i HI.out.2).getp HP.out.pos q
                      have hy1B := (HNM.out c CC.out).getp HP.out.pos q
                      rw [hx1] at hx1B
                      rw [hy1] at hy1B
                      have HX1 := Aside0.mk hx1
                      have HY1 := Aside0.mk hy1
                      have HX1B := Aside0.mk hx1B
                      have HY1B := Aside0.mk hy1B
                      clear hx1 hy1 hx1B hy1B
                      have cq1 := CQ.out
                      go_wp2
                      clear cq1
                      have q0 : (0 ≤ (c : Int)) = True := eq_true (by omega)
                      have q1 : ((c : Int) < (l1.length : Int)) = True := eq_true (by have := CC.out; omega)
                      have q2 : (0 ≤ (q : Int)) = True := eq_true (by omega)
                      have q3 : ((q : Int) < (l1.length : Int)) = True := eq_true (by have := CQ.out; omega)
                      refine start_ (n := 20) (S := fun w' => w'.cell? ⟨gq, 0, none⟩ = some (.int .i64 (c : Int)) ∧ w'.cell? ⟨gb, c, none⟩ = some (.slice (some ⟨β1 c, 0, none⟩) l1.length (κ1 c)) ∧ w'.cell? ⟨β1 c, q, none⟩ = some (.int .i64 y1) ∧ w'.cell? ⟨β1 i, q, none⟩ = some (.int .i64 x1)) (ds := [19]) (bl 20 0) (by kernel_rfl) rfl (by kernel_rfl) ⟨(blk_cell BK.out 0).trans rfl, HM.out.outer CC.out, HRC.out, HRI.out⟩ (fun hHeld => ?_)
                      refine with_tabW impl_field_determinant.tab25 impl_field_determinant.bits25 (fun HT_ HW_ => ?_)
                      have n0_ := Aside0.mk (HM.out.below (below_drew1 (Below.refl _ _)))
                      have n1_ := Aside0.mk (below_drew1 HB.out)
                      have n2_ := Aside0.mk (blk_drew BK.out)
                      clear HM HB BK
                      have HM := n0_; have HB := n1_; have BK := n2_
                      clear n0_ n1_ n2_
                      clear HRI HRC
                      generalize wr.drew = w12 at HM HB BK hHeld ⊢
                      refine pu_ 0 106 (bl 20 1) HT_ ?_
                      refine pu_ 1 107 (bl 20 3) HT_ ?_
                      refine pu_ 2 108 (bl 20 7) HT_ ?_
                      refine pu_ 3 109 (bl 20 15) HT_ ?_
                      refine pu_ 4 110 (bl 20 31) HT_ ?_
                      refine pu_ 5 111 (bl 20 63) HT_ ?_
                      refine pu_ 7 113 (bl 20 191) HT_ ?_
                      refine pu_ 8 114 (bl 20 447) HT_ ?_
                      refine pu_ 12 118 (bl 20 4543) HT_ ?_
                      refine ta_ 6 112 (bl 20 4607) HT_ HW_ hHeld ?_
                      refine ta_ 9 115 (bl 20 5119) HT_ HW_ hHeld ?_
                      refine pu_ 10 116 (bl 20 6143) HT_ ?_
                      refine ta_ 11 117 (bl 20 8191) HT_ HW_ hHeld ?_
                      refine pu_ 13 119 (bl 20 16383) HT_ ?_
                      refine ta_ 14 120 (bl 20 32767) HT_ HW_ hHeld ?_
                      refine pu_ 15 121 (bl 20 65535) HT_ ?_
                      refine pu_ 16 122 (bl 20 131071) HT_ ?_
                      refine on_ 17 (some 123) (bl 20 262143) HT_ (fun K hK => ?_)
                      refine gS Try.func122 #[.int .i64 a0, .int .i64 (wrap64 (x1 - wrap64 (f * y1)))] ?_
                      refine (mod_calls2 HP.out (y := (x1 - f * y1) % a0) ?wv _).mono ?_
                      (case wv => have h1 := HX1B.out; have h2 := HY1B.out; have h3 := mulP HP.out HFB.out.1 HFB.out.2 h2.1 h2.2; have h4 := HP.out.top; rw [wrap_id (x := f * y1) (by omega) (by omega), wrap_id (by omega) (by omega)])
                      rintro e w' ⟨rfl, ⟨nd, rfl⟩⟩
                      refine ⟨_, rfl, ?_⟩
                      refine hK.out _ _ hHeld (fun hHeld => ?_)
                      clear hK K
                      refine no_ 123 ?_
                      have n0_ := Aside0.mk (HM.out.below (pw_below_drewN (Below.refl _ _) nd))
                      have n1_ := Aside0.mk (pw_below_drewN HB.out nd)
                      have n2_ := Aside0.mk (blk_drewN BK.out nd)
                      clear HM HB BK
                      have HM := n0_; have HB := n1_; have BK := n2_
                      clear n0_ n1_ n2_
                      generalize w12.drewN nd = w13 at HM HB BK hHeld ⊢
                      refine pu_ 18 124 (bl 20 524287) HT_ ?_
                      refine last_ (i := 19) (N := none) (bl 20 1048575) rfl rfl (one_of HT_.out (by kernel_rfl)) (by decide) (fun K hK => ?_)
                      have hsr : w13.cell? ⟨β1 i, q, none⟩ = some (.int .i64 x1) := hHeld.2.2.2
                      have hsf : w13.frozen? ⟨β1 i, q, none⟩ = false := HM.out.frozen HI.out.2 q
                      refine skip_ (w1 := w13.setCell ⟨β1 i, q, none⟩ (.int .i64 ((x1 - f * y1) % a0))) (by rfl) rfl (by first | (go_simp; done) | (go_simp; rfl)) ?_
                      refine hK.out _ _ ?_
                      clear hK K
                      refine done_ (done_of HT_.out (by kernel_rfl)) ?_
                      have hne := HM.out.box_ne BK.out (by decide) (by decide)
                      have n0_ := Aside0.mk ((HM.out.put (by decide) HI.out.2 CQ.out ((x1 - f * y1) % a0)).congr (M' := fun t => if t = i then partRow a0 f (M1 i) (M1 c) l1.length (q + 1) else if c < t ∧ t < c' + j then E t else M1 t) (fun t ht => by
                        by_cases hti : t = i
                        · simp only [if_pos hti, if_true]
                          rw [← HX1.out, ← HY1.out]
                          exact partRow_set a0 f (M1 i) (M1 c) l1.length q
                        · simp only [if_neg hti]))
                      have n1_ := Aside0.mk (below_set (j := q) (v := .int .i64 ((x1 - f * y1) % a0)) HB.out (HM.out.bb i HI.out.2))
                      have n2_ := Aside0.mk (blk_far (p := ⟨β1 i, q, none⟩) BK.out (hne.2 i HI.out.2) (.int .i64 ((x1 - f * y1) % a0)))
                      clear HM HB BK hHeld hsr hsf hne q0 q1 q2 q3
                      have HM := n0_; have HB := n1_; have BK := n2_
                      clear n0_ n1_ n2_
                      generalize w13.setCell ⟨β1 i, q, none⟩ (.int .i64 ((x1 - f * y1) % a0)) = w14 at HM HB BK ⊢
                      go_wp2
                      go_roundg (l1.length - q)
                      case measure => have := HQ.out; have := CQ.out; omega
                      case rel => exact ⟨q + 1, by rw [wsucc CQ.out (by have := HN.out; omega)], ⟨by have := HQ.out; have := CQ.out; omega, CQ.out⟩, ⟨HM.out.below (by repeat (first | exact Below.refl _ _ | apply below_drew1 | apply pw_below_drewN))⟩, ⟨uB BK.out⟩, ⟨uH HB.out⟩⟩
                    · obtain rfl : q = l1.length := by have := HQ.out; omega
                      have c1 : decide ((l1.length : Int) < (l1.length : Int)) = false := decide_eq_false (by omega)
                      go_wp2
                      go_roundg (m - j)
                      case measure => have := HJ.out; have := CJ.out; omega
                      case rel =>
                        refine ⟨j + 1, by rw [wsucc CJ.out (by have := HN.out; have := HME.out; omega)], ⟨by have := HJ.out; have := CJ.out; omega, CJ.out⟩, ⟨(HM.out.below (by repeat (first | exact Below.refl _ _ | apply below_drew1 | apply pw_below_drewN))).congr fun t ht => ?_⟩, ⟨uB BK.out⟩, ⟨uH HB.out⟩⟩
                        by_cases hti : t = i
                        · rw [if_pos hti, partRow_all, ← HF.out, hti, if_pos (by have := HI.out; have := HIE.out; omega)]
                        · rw [if_neg hti]
                          by_cases hc2 : c < t ∧ t < c' + j
                          · rw [if_pos hc2, if_pos (by omega)]
                          · rw [if_neg hc2, if_neg (by have := HIE.out; omega)]
                · obtain rfl : j = m := by have := HJ.out; omega
                  have c1 : decide ((j : Int) < (j : Int)) = false := decide_eq_false (by omega)
                  go_wp2
                  go_roundg (l1.length - c)
                  case measure => have := HC.out; have := CC.out; omega
                  case rel =>
                    have hcc := HCE.out
                    have hmm := HME.out
                    have hcl := CC.out
                    subst hcc
                    refine ⟨c + 1, o2, β1, κ1, stepM a0 (invF a0 y0) l1.length c M1, rfl, by rw [wsucc CC.out (by have := HN.out; omega)], ⟨by have := HC.out; omega, CC.out⟩, ⟨HOB2.out, fun t ht => ?_⟩, HG, ⟨(HM.out.below (by repeat (first | exact Below.refl _ _ | apply below_drew1 | apply pw_below_drewN))).congr fun t ht => ?_⟩, ⟨uH HB.out⟩⟩
                    · unfold stepM
                      by_cases h1 : c < t
                      · rw [if_pos h1]; exact elimRow_nm HP.out.pos _ _ _ _
                      · rw [if_neg h1]; exact HNM.out t ht
                    · unfold stepM
                      by_cases h1 : c < t
                      · rw [if_pos h1, if_pos (by omega), HE.out]
                      · rw [if_neg h1, if_neg (by omega)]
        · obtain rfl : c = l1.length := by have := HC.out; omega
          have c1 : decide ((l1.length : Int) < (l1.length : Int)) = false := decide_eq_false (by omega)
          have e : o = r := by have := HG.out; rw [Nat.sub_self, detGo] at this; exact this
          subst e
          go_wp2
          go_ret
          exact ⟨rfl, uH HB.out⟩
end Go.Proofs.Ytfbnkebgdmfcfaa.Pr
